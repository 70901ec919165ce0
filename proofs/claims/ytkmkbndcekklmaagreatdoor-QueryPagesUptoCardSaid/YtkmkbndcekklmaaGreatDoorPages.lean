/- Page behind page, each with the token of the one ahead, over other rows each time: each as the document says. The condition: what comes in is of bulk at most 1048576; the table is laid as the program's text says. -/
import Derived.Test.YtkmkbndcekklmaaGreatDoorRows
import Derived.Test.YtkmkbndcekklmaaGreatDoorCards
import Derived.Test.YtkmkbndcekklmaaGreatDoorTie
import Derived.Test.YtkmkbndcekklmaaGreatDoorPL
import Derived.OpenShut
import Derived.Deep.DeepHandedRow
import Derived.ShutString
set_option linter.unusedSimpArgs false
set_option linter.unusedVariables false
set_option maxRecDepth 10000
namespace Go.Proofs.YtkmkbndcekklmaaGreatDoor.qpages
open Go Go.Sx Go.Rt Go.Proofs Go.ChangeShapes Go.WideShapes Go.ChangeAt Go.RowKit Tryz
theorem walk (x0 : List Fml) (x1 : QryE) (x2 : Int) (x3 : List (List RowE)) (x4 : List Int) (hs0 : x0.length ≤ 1048576) (hq1 : x1.fine) (wi2 : (Lit.int .i64 x2).wf = true) (hw3 : x3.length ≤ 1048576 ∧ ∀ y ∈ x3, Xn y) (hi4 : x4.length ≤ 1048576) {W : World} (hw : laidMetH prog tabs W) (v0 : Value) (v1 : Value) (v2 : Value) (v3 : Value) (v4 : Value) (h0 : Rel (c0 W) (Zf x0) false [v0]) (h1 : Rel (c0 W) (Ze x1) false [v1]) (h2 : Rel (c0 W) (.int .i64 x2) false [v2]) (h3 : Rel (c0 W) (.sl 1 (x3.map Vn)) false [v3]) (h4 : Rel (c0 W) (Zt x4) false [v4]) :
   Calls prog 7 #[v0, v1, v2, v3, v4] W fun e w' => e = .returned (.bool true) ∧ Below W.heap.size W w' :=
 retG hw (JH x0 hs0 x1 hq1 x2 x3 hw3 x4 hi4 _ _ gokG) ⟨v0, _, rfl, h0, v1, _, rfl, h1, v2, _, rfl, h2, v3, _, rfl, h3, v4, _, rfl, h4, rfl⟩
theorem laid_met (os : Os) : laidMet prog Rows.queryPagesUptoRow.laid ((KV os).forCall (fun _ _ => 0) ⟨#[], #[.agg #[.slice none 0 0], .agg #[.slice none 0 0, .slice none 0 0, .slice none 0 0, .slice none 0 0, .int .i64 0, .int .i64 0, .int .i64 0, .bool false, .string ⟨#[]⟩, .slice none 0 0], .int .i64 0, .slice none 0 0, .slice none 0 0], []⟩).memory :=
 laidMet_of_run' 8 (by kernel_rfl) (by kernel_rfl)
theorem reads (os : Os) {H : Type} (enc : TypeId × Value → H) : ∃ places, DataW.whole enc prog ((KV os).forCall (fun _ _ => 0) ⟨#[], #[.agg #[.slice none 0 0], .agg #[.slice none 0 0, .slice none 0 0, .slice none 0 0, .slice none 0 0, .int .i64 0, .int .i64 0, .int .i64 0, .bool false, .string ⟨#[]⟩, .slice none 0 0], .int .i64 0, .slice none 0 0, .slice none 0 0], []⟩).memory f7.params.toList Rows.queryPagesSpec.vars false (#[.agg #[.slice none 0 0], .agg #[.slice none 0 0, .slice none 0 0, .slice none 0 0, .slice none 0 0, .int .i64 0, .int .i64 0, .int .i64 0, .bool false, .string ⟨#[]⟩, .slice none 0 0], .int .i64 0, .slice none 0 0, .slice none 0 0] : Array Value).toList 8 = some ([.agg [.nil], .agg [.nil, .nil, .nil, .nil, .lit (.int .i64 0), .lit (.int .i64 0), .lit (.int .i64 0), .lit (.bool false), .lit (.string []), .nil], .lit (.int .i64 0), .nil, .nil], [], places) :=
 ⟨[], by kernel_rfl⟩
set_option maxRecDepth 100000 in
theorem contract (H : Type) (enc : TypeId × Value → H) (W : World) (base : Nat) (args : Array Value) (ds gs : List (DataW H)) (before : List MemPlace)
   (hval0 : ∀ (j : Nat) t v, f7.params[j]? = some t → args[j]? = some v → Value.okWide prog W .any base t v)
   (hW : DataW.Whole enc prog f7.params.toList Rows.queryPagesSpec.vars false W args.toList ds gs before) (hL : laidMetH prog Rows.queryPagesUptoRow.laid W) (hk : Rows.uptoSmall H (ds ++ gs) = true) :
   Calls prog 7 args W fun e W' => ∃ v, e = .returned v ∧ Rows.queryPagesSpec.post enc prog f7 false true false false W args v W' := by
 have hval : ∀ (j : Nat) t v, f7.params[j]? = some t → args[j]? = some v → Value.okWide prog W .any base t v := hval0
 have hW' := hW
 obtain ⟨p, q, hA0, hV, rfl, hfz, hnd⟩ := hW
 have hA : DataW.TrodAll enc prog W 0 (fun _ => true) true f7.params.toList args.toList ds p := hA0
 rw [params7] at hA hval
 obtain ⟨v0, vs0, d0, ds0, p0, q0, hargs, rfl, rfl, h0, r0⟩ := trodAll_cons hA
 obtain ⟨v1, vs1, d1, ds1, p1, q1, rfl, rfl, rfl, h1, r1⟩ := trodAll_cons r0
 obtain ⟨v2, vs2, d2, ds2, p2, q2, rfl, rfl, rfl, h2, r2⟩ := trodAll_cons r1
 obtain ⟨v3, vs3, d3, ds3, p3, q3, rfl, rfl, rfl, h3, r3⟩ := trodAll_cons r2
 obtain ⟨v4, vs4, d4, ds4, p4, q4, rfl, rfl, rfl, h4, r4⟩ := trodAll_cons r3
 obtain ⟨rfl, rfl, rfl⟩ := trodAll_nil r4
 obtain rfl : args = #[v0, v1, v2, v3, v4] := by cases args; simp_all
 obtain ⟨rfl, rfl⟩ := trodVars_none hV
 have lt0 : ∀ x ∈ p0, x.block < W.heap.size := by obtain ⟨m, hm⟩ := h0; exact DataW.trod_lt m _ _ _ hm
 have lt1 : ∀ x ∈ p1, x.block < W.heap.size := by obtain ⟨m, hm⟩ := h1; exact DataW.trod_lt m _ _ _ hm
 have lt2 : ∀ x ∈ p2, x.block < W.heap.size := by obtain ⟨m, hm⟩ := h2; exact DataW.trod_lt m _ _ _ hm
 have lt3 : ∀ x ∈ p3, x.block < W.heap.size := by obtain ⟨m, hm⟩ := h3; exact DataW.trod_lt m _ _ _ hm
 have lt4 : ∀ x ∈ p4, x.block < W.heap.size := by obtain ⟨m, hm⟩ := h4; exact DataW.trod_lt m _ _ _ hm
 have hbk := of_decide_eq_true hk
 simp only [Rows.uptoBulkAll, List.append_nil] at hbk
 obtain ⟨x0, g0, b0⟩ := argSch (hval 0 30 v0 rfl rfl) h0
 obtain ⟨x1, g1, hq1⟩ := argQry (hval 1 25 v1 rfl rfl) h1 (by omega)
 obtain ⟨x2, g2, wi2⟩ := argInt (hval 2 3 v2 rfl rfl) h2
 obtain ⟨x3, g3, hw3⟩ := argRowss (hval 3 38 v3 rfl rfl) h3 (by omega)
 obtain ⟨x4, g4, hi4⟩ := argInts (hval 4 23 v4 rfl rfl) h4 (by omega)
 clear hA0 hval0
 have hs0 : x0.length ≤ 1048576 := by omega
 refine (walk x0 x1 x2 x3 x4 hs0 hq1 wi2 hw3 hi4 hL v0 v1 v2 v3 v4 g0 g1 g2 g3 g4).mono fun e W' ⟨he, bel⟩ => ?_
 subst he
 exact ⟨_, rfl, _, _, _, [], _, [], hW', trodAll_mk1 (shut_bool underlying4 _), (trodAll_cons_mk (Below.trod laid9 (by kernel_rfl) (of_decide_eq_true (by kernel_rfl)) h0 bel lt0) (trodAll_cons_mk (Below.trod laid9 (by kernel_rfl) (of_decide_eq_true (by kernel_rfl)) h1 bel lt1) (trodAll_cons_mk (Below.trod laid9 (by kernel_rfl) (of_decide_eq_true (by kernel_rfl)) h2 bel lt2) (trodAll_cons_mk (Below.trod laid9 (by kernel_rfl) (of_decide_eq_true (by kernel_rfl)) h3 bel lt3) (trodAll_cons_mk (Below.trod laid9 (by kernel_rfl) (of_decide_eq_true (by kernel_rfl)) h4 bel lt4) trodAll_mk0))))), rfl, bel.frame _, fun h => by cases h⟩
set_option maxRecDepth 100000 in
theorem lifted (os : Os) (started : os.Started) (H : Type) (enc : TypeId × Value → H) (F : Stop.Interp) :
   ReturnsInHanded {} checked os 7 .any ((Rows.OpenSpec.upto Rows.queryPagesSpec).preRow enc prog f7 Rows.queryPagesUptoRow.domain false Rows.queryPagesUptoRow.laid) (((Rows.OpenSpec.upto Rows.queryPagesSpec).at F).post enc prog f7 false true false false) := by
 obtain ⟨places, hx⟩ := reads os enc
 refine returnsInHanded_of_row (C := checked) (s := Rows.OpenSpec.upto Rows.queryPagesSpec) own9 started (by kernel_rfl) func7
   (witness_row_at (enc := enc) (C := checked) false (KV os) #[.agg #[.slice none 0 0], .agg #[.slice none 0 0, .slice none 0 0, .slice none 0 0, .slice none 0 0, .int .i64 0, .int .i64 0, .int .i64 0, .bool false, .string ⟨#[]⟩, .slice none 0 0], .int .i64 0, .slice none 0 0, .slice none 0 0] rfl (by kernel_rfl) (by kernel_rfl) (by kernel_rfl)
     (OpenSpec.preRow_of_cond 8 hx (by kernel_rfl) (fun k hk => by cases hk; kernel_rfl) (by kernel_rfl) (laid_met os))) ?_
 intro W base args ds gs before hval hW _ hk _ hL _ _
 exact contract H enc W base args ds gs before hval hW hL (hk _ rfl)
theorem said : Rows.QueryPagesUptoSaid :=
 OpenClaim.holds_of_cond 7 f7 rfl rfl rfl rfl rfl rfl rfl ⟨rfl, rfl, rfl, rfl, rfl⟩ rfl rfl rfl rfl rfl (by kernel_rfl) func7 (by kernel_rfl)
   (of_decide_eq_true (by kernel_rfl)) (by unfold Func.isWrapper; first | (rw [if_pos (by decide +kernel)]; kernel_rfl) | (rw [if_neg (by decide +kernel)]; exact ⟨rfl, rfl⟩))
   (fun os started H enc _ F => by rw [OpenClaim.pre_eq_preRow]; exact lifted os started H enc F)
set_option maxRecDepth 100000 in
theorem plain (f : FuncId) (fn : Func) (hf : pinned.checked.prog.funcNamed "strata/stratalaw13.QueryPages" = some f) (hfn : pinned.checked.prog.funcs[f]? = some fn) :
   true = pinned.checked.prog.looks [] ∧ ∀ (j : Nat) t, fn.params[j]? = some t → pinned.checked.prog.wantsStandIn t = false := by
 obtain rfl : f = 7 := Option.some.inj ((show (prog).funcNamed "strata/stratalaw13.QueryPages" = some 7 by kernel_rfl).symm.trans hf) |>.symm
 obtain rfl : fn = f7 := (Option.some.inj (func7.symm.trans hfn)).symm
 refine ⟨by kernel_rfl, fun j t ht => ?_⟩
 rw [params7] at ht
 have hm := Array.mem_of_getElem? ht
 simp only [List.mem_toArray, List.mem_cons, List.not_mem_nil, or_false] at hm
 rcases hm with rfl | rfl | rfl | rfl | rfl <;> first | exact (show (prog).wantsStandIn 38 = false by kernel_rfl) | exact (show (prog).wantsStandIn 23 = false by kernel_rfl) | exact (show (prog).wantsStandIn 25 = false by kernel_rfl) | exact (show (prog).wantsStandIn 30 = false by kernel_rfl) | exact (show (prog).wantsStandIn 3 = false by kernel_rfl)
theorem proved : Rows.QueryPagesUptoCardSaid :=
 Claim7.holds_tied_plain_at .later [] _ _ _ _ said (fun _ h => by cases h) (by kernel_rfl) (fun _ h => by cases h) queryPagesUpto_row_tie rfl ⟨rfl, rfl⟩ (by kernel_rfl) rfl plain (by kernel_rfl)
end Go.Proofs.YtkmkbndcekklmaaGreatDoor.qpages