/- Of whatever is handed in, two Filters that are pushed into in turns answer what the document says: every refusal, what has been told when a row ends, all of it when they are ended, and what was left out is counted by its reason. The condition: what comes in is of bulk at most 1048576. -/
import Derived.Test.YtijhkfhflpmajaaGreatFH
import Derived.Test.YtijhkfhflpmajaaGreatFN
import Derived.ShutString
set_option linter.unusedSimpArgs false
set_option linter.unusedVariables false
namespace Go.Proofs.YtijhkfhflpmajaaGreat.filters
open Go Go.Sx Go.Rt Go.Proofs Go.ChangeShapes Go.WideShapes Go.ChangeAt Go.RowKit
theorem walk (x0 : Cas) (x1 : Cas) (x2 : List Ent) (x3 : List Int) (hb0 : x0.s.length ≤ 1048576) (hb1 : x1.s.length ≤ 1048576) (hb2 : x2.length ≤ 1048576) (hf2 : ∀ e ∈ x2, e.fits) (hg2 : ∀ e ∈ x2, e.row.length ≤ 1048576 ∧ e.qual.length ≤ 1048576 ∧ e.value.length ≤ 1048576) (W : World) (v0 : Value) (v1 : Value) (v2 : Value) (v3 : Value) (h0 : Rel (c0 W) (casAV x0) false [v0]) (h1 : Rel (c0 W) (casAV x1) false [v1]) (h2 : Rel (c0 W) (entsAV x2) false [v2]) (h3 : Rel (c0 W) (intsAV x3) false [v3]) :
    Calls Tryz.prog 8 #[v0, v1, v2, v3] W fun e w' => e = .returned (.bool true) ∧ Below W.heap.size W w' := by
  have h := c_law_RetainFilters x0 x1 hb0 hb1 x2 hb2 hg2 x3 (fun _ => none) 0
  exact Ret.below h ⟨v0, _, rfl, h0, v1, _, rfl, h1, v2, _, rfl, h2, v3, _, rfl, h3, rfl⟩
set_option maxRecDepth 100000 in
theorem lifted (os : Os) (started : os.Started) (H : Type) (enc : TypeId × Value → H) (F : Stop.Interp) :
    ReturnsInHanded {} Tryz.checked os 8 .any ((Rows.OpenSpec.upto Rows.retainFiltersSpec).pre6 enc Tryz.prog Tryz.f8 Rows.retainFiltersUptoRow.domain false) (((Rows.OpenSpec.upto Rows.retainFiltersSpec).at F).post enc Tryz.prog Tryz.f8 false true false false) := by
  refine returnsInHanded_of_cond (C := Tryz.checked) (s := Rows.OpenSpec.upto Rows.retainFiltersSpec) (k := Rows.uptoSmall) rfl own9 started (by kernel_rfl) Tryz.func8
    (OpenSpec.witness (enc := enc) (C := Tryz.checked) (s := Rows.OpenSpec.upto Rows.retainFiltersSpec) (k := Rows.uptoSmall) rfl false ⟨#[], #[.agg #[.slice none 0 0, .int .i64 0, .bool false, .int .i64 0, .int .i64 0, .int .i64 0], .agg #[.slice none 0 0, .int .i64 0, .bool false, .int .i64 0, .int .i64 0, .int .i64 0], .slice none 0 0, .slice none 0 0], []⟩ 8 (by kernel_rfl) (by kernel_rfl) (by kernel_rfl)
      (x := ([.agg [.agg [.nil], .lit (.int .i64 0), .lit (.bool false), .lit (.int .i64 0), .lit (.int .i64 0), .lit (.int .i64 0)], .agg [.agg [.nil], .lit (.int .i64 0), .lit (.bool false), .lit (.int .i64 0), .lit (.int .i64 0), .lit (.int .i64 0)], .nil, .nil], [], [])) (by kernel_rfl) rfl (by kernel_rfl)) ?_
  intro W base args ds gs before hval0 hW _ hk _
  have hval : ∀ (j : Nat) t v, Tryz.f8.params[j]? = some t → args[j]? = some v → Value.okWide Tryz.prog W .any base t v := hval0
  have hW' := hW
  obtain ⟨p, q, hA0, hV, rfl, hfz, hnd⟩ := hW
  have hA : DataW.TrodAll enc Tryz.prog W 0 (fun _ => true) true Tryz.f8.params.toList args.toList ds p := hA0
  rw [Tryz.params8] at hA hval
  obtain ⟨v0, vs0, d0, ds0, p0, q0, hargs, rfl, rfl, h0, r0⟩ := trodAll_cons hA
  obtain ⟨v1, vs1, d1, ds1, p1, q1, rfl, rfl, rfl, h1, r1⟩ := trodAll_cons r0
  obtain ⟨v2, vs2, d2, ds2, p2, q2, rfl, rfl, rfl, h2, r2⟩ := trodAll_cons r1
  obtain ⟨v3, vs3, d3, ds3, p3, q3, rfl, rfl, rfl, h3, r3⟩ := trodAll_cons r2
  obtain ⟨rfl, rfl, rfl⟩ := trodAll_nil r3
  obtain rfl : args = #[v0, v1, v2, v3] := by cases args; simp_all
  obtain ⟨rfl, rfl⟩ := trodVars_none hV
  have lt0 : ∀ x ∈ p0, x.block < W.heap.size := by obtain ⟨m, hm⟩ := h0; exact DataW.trod_lt m _ _ _ hm
  have lt1 : ∀ x ∈ p1, x.block < W.heap.size := by obtain ⟨m, hm⟩ := h1; exact DataW.trod_lt m _ _ _ hm
  have lt2 : ∀ x ∈ p2, x.block < W.heap.size := by obtain ⟨m, hm⟩ := h2; exact DataW.trod_lt m _ _ _ hm
  have lt3 : ∀ x ∈ p3, x.block < W.heap.size := by obtain ⟨m, hm⟩ := h3; exact DataW.trod_lt m _ _ _ hm
  have hbk := of_decide_eq_true hk
  simp only [Rows.uptoBulkAll, List.append_nil] at hbk
  obtain ⟨x0, g0, b0⟩ := argCase (hval 0 62 v0 rfl rfl) h0
  obtain ⟨x1, g1, b1⟩ := argCase (hval 1 62 v1 rfl rfl) h1
  obtain ⟨x2, g2, b2, c2⟩ := argEnts (hval 2 28 v2 rfl rfl) h2
  obtain ⟨x3, g3⟩ := argInts (hval 3 63 v3 rfl rfl) h3
  clear hA0 hval0
  have hb0 : x0.s.length ≤ 1048576 := by omega
  have hb1 : x1.s.length ≤ 1048576 := by omega
  have hb2 : x2.length ≤ 1048576 := by omega
  have hf2 : ∀ e ∈ x2, e.fits := fun e he => by have := c2 e he; exact ⟨by omega, by omega, by omega⟩
  have hg2 : ∀ e ∈ x2, e.row.length ≤ 1048576 ∧ e.qual.length ≤ 1048576 ∧ e.value.length ≤ 1048576 := fun e he => by have := c2 e he; omega
  refine (walk x0 x1 x2 x3 hb0 hb1 hb2 hf2 hg2 W v0 v1 v2 v3 g0 g1 g2 g3).mono fun e W' ⟨he, bel⟩ => ?_
  subst he
  exact ⟨_, rfl, _, _, _, [], _, [], hW', trodAll_mk1 (shut_bool Tryz.underlying4 _), (trodAll_cons_mk (Below.trod laid9 (by kernel_rfl) (of_decide_eq_true (by kernel_rfl)) h0 bel lt0) (trodAll_cons_mk (Below.trod laid9 (by kernel_rfl) (of_decide_eq_true (by kernel_rfl)) h1 bel lt1) (trodAll_cons_mk (Below.trod laid9 (by kernel_rfl) (of_decide_eq_true (by kernel_rfl)) h2 bel lt2) (trodAll_cons_mk (Below.trod laid9 (by kernel_rfl) (of_decide_eq_true (by kernel_rfl)) h3 bel lt3) trodAll_mk0)))), rfl, bel.frame _, fun h => by cases h⟩
theorem over : Rows.retainFiltersUptoRow.holds Tryz.pinned (Rows.OpenSpec.upto Rows.retainFiltersSpec) :=
  OpenClaim.holds_of_cond 8 Tryz.f8 rfl rfl rfl rfl rfl rfl rfl ⟨rfl, rfl, rfl, rfl, rfl⟩ rfl rfl rfl rfl rfl (by kernel_rfl) Tryz.func8 (by kernel_rfl)
    (of_decide_eq_true (by kernel_rfl)) (by unfold Func.isWrapper; first | (rw [if_pos (by decide +kernel)]; kernel_rfl) | (rw [if_neg (by decide +kernel)]; exact ⟨rfl, rfl⟩))
    (fun os started H enc _ F => lifted os started H enc F)
theorem proved : Rows.RetainFiltersUptoSaid := over
end Go.Proofs.YtijhkfhflpmajaaGreat.filters