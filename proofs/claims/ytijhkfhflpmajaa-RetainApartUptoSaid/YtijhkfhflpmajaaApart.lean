/- What all calls, two Filters and two Readers answer, asked twice in a row, lies untouched; then all is written full and lengthened: each holds its own. The condition: what comes in is of bulk at most 1048576. -/
import Derived.Test.YtijhkfhflpmajaaPJ
import Derived.Test.YtijhkfhflpmajaaPM
import Derived.ShutString
set_option linter.unusedSimpArgs false
set_option linter.unusedVariables false
namespace Go.Proofs.Ytijhkfhflpmajaa.apart
open Go Go.Sx Go.Rt Go.Proofs Go.ChangeShapes Go.WideShapes Go.ChangeAt Go.RowKit
theorem walk (x0 : OE) (x1 : List Ent) (hb0 : x0.s.length ≤ 1048576) (hl0 : x0.l.length ≤ 1048576) (hf0 : ∀ e ∈ x0.l, e.fits) (hb1 : x1.length ≤ 1048576) (hf1 : ∀ e ∈ x1, e.fits) (hg1 : ∀ e ∈ x1, e.row.length ≤ 1048576 ∧ e.qual.length ≤ 1048576 ∧ e.value.length ≤ 1048576) (W : World) (v0 : Value) (v1 : Value) (h0 : Rel (c0 W) (oeAV x0) false [v0]) (h1 : Rel (c0 W) (entsAV x1) false [v1]) :
    Calls Try.prog 10 #[v0, v1] W fun e w' => e = .returned (.bool true) ∧ Below W.heap.size W w' := by
  have h := c_law_RetainApart x0.kind x0.s hb0 x0.clock x0.t x0.n x0.major x0.l x1 hl0 hb1 hf0 (fun _ => none) 0
  exact Ret.below h ⟨v0, _, rfl, h0, v1, _, rfl, h1, rfl⟩
set_option maxRecDepth 100000 in
theorem lifted (os : Os) (started : os.Started) (H : Type) (enc : TypeId × Value → H) (F : Stop.Interp) :
    ReturnsInHanded {} Try.checked os 10 .any ((Rows.OpenSpec.upto Rows.retainApartSpec).pre6 enc Try.prog Try.f10 Rows.retainApartUptoRow.domain false) (((Rows.OpenSpec.upto Rows.retainApartSpec).at F).post enc Try.prog Try.f10 false true false false) := by
  refine returnsInHanded_of_cond (C := Try.checked) (s := Rows.OpenSpec.upto Rows.retainApartSpec) (k := Rows.uptoSmall) rfl own9 started (by kernel_rfl) Try.func10
    (OpenSpec.witness (enc := enc) (C := Try.checked) (s := Rows.OpenSpec.upto Rows.retainApartSpec) (k := Rows.uptoSmall) rfl false ⟨#[], #[.agg #[.int .i64 0, .slice none 0 0, .int .i64 0, .int .i64 0, .int .i64 0, .bool false, .slice none 0 0], .slice none 0 0], []⟩ 8 (by kernel_rfl) (by kernel_rfl) (by kernel_rfl)
      (x := ([.agg [.lit (.int .i64 0), .agg [.nil], .lit (.int .i64 0), .lit (.int .i64 0), .lit (.int .i64 0), .lit (.bool false), .nil], .nil], [], [])) (by kernel_rfl) rfl (by kernel_rfl)) ?_
  intro W base args ds gs before hval0 hW _ hk _
  have hval : ∀ (j : Nat) t v, Try.f10.params[j]? = some t → args[j]? = some v → Value.okWide Try.prog W .any base t v := hval0
  have hW' := hW
  obtain ⟨p, q, hA0, hV, rfl, hfz, hnd⟩ := hW
  have hA : DataW.TrodAll enc Try.prog W 0 (fun _ => true) true Try.f10.params.toList args.toList ds p := hA0
  rw [Try.params10] at hA hval
  obtain ⟨v0, vs0, d0, ds0, p0, q0, hargs, rfl, rfl, h0, r0⟩ := trodAll_cons hA
  obtain ⟨v1, vs1, d1, ds1, p1, q1, rfl, rfl, rfl, h1, r1⟩ := trodAll_cons r0
  obtain ⟨rfl, rfl, rfl⟩ := trodAll_nil r1
  obtain rfl : args = #[v0, v1] := by cases args; simp_all
  obtain ⟨rfl, rfl⟩ := trodVars_none hV
  have lt0 : ∀ x ∈ p0, x.block < W.heap.size := by obtain ⟨m, hm⟩ := h0; exact DataW.trod_lt m _ _ _ hm
  have lt1 : ∀ x ∈ p1, x.block < W.heap.size := by obtain ⟨m, hm⟩ := h1; exact DataW.trod_lt m _ _ _ hm
  have hbk := of_decide_eq_true hk
  simp only [Rows.uptoBulkAll, List.append_nil] at hbk
  obtain ⟨x1, g1, b1, c1⟩ := argEnts (hval 1 25 v1 rfl rfl) h1
  obtain ⟨x0, g0, b0, l0, c0⟩ := argOe (hval 0 60 v0 rfl rfl) h0
  clear hA0 hval0
  have hb0 : x0.s.length ≤ 1048576 := by omega
  have hl0 : x0.l.length ≤ 1048576 := by omega
  have hf0 : ∀ e ∈ x0.l, e.fits := fun e he => by have := c0 e he; exact ⟨by omega, by omega, by omega⟩
  have hb1 : x1.length ≤ 1048576 := by omega
  have hf1 : ∀ e ∈ x1, e.fits := fun e he => by have := c1 e he; exact ⟨by omega, by omega, by omega⟩
  have hg1 : ∀ e ∈ x1, e.row.length ≤ 1048576 ∧ e.qual.length ≤ 1048576 ∧ e.value.length ≤ 1048576 := fun e he => by have := c1 e he; omega
  refine (walk x0 x1 hb0 hl0 hf0 hb1 hf1 hg1 W v0 v1 g0 g1).mono fun e W' ⟨he, bel⟩ => ?_
  subst he
  exact ⟨_, rfl, _, _, _, [], _, [], hW', trodAll_mk1 (shut_bool Try.underlying4 _), (trodAll_cons_mk (Below.trod laid9 (by kernel_rfl) (of_decide_eq_true (by kernel_rfl)) h0 bel lt0) (trodAll_cons_mk (Below.trod laid9 (by kernel_rfl) (of_decide_eq_true (by kernel_rfl)) h1 bel lt1) trodAll_mk0)), rfl, bel.frame _, fun h => by cases h⟩
theorem over : Rows.retainApartUptoRow.holds Try.pinned (Rows.OpenSpec.upto Rows.retainApartSpec) :=
  OpenClaim.holds_of_cond 10 Try.f10 rfl rfl rfl rfl rfl rfl rfl ⟨rfl, rfl, rfl, rfl, rfl⟩ rfl rfl rfl rfl rfl (by kernel_rfl) Try.func10 (by kernel_rfl)
    (of_decide_eq_true (by kernel_rfl)) (by unfold Func.isWrapper; first | (rw [if_pos (by decide +kernel)]; kernel_rfl) | (rw [if_neg (by decide +kernel)]; exact ⟨rfl, rfl⟩))
    (fun os started H enc _ F => lifted os started H enc F)
theorem proved : Rows.RetainApartUptoSaid := over
end Go.Proofs.Ytijhkfhflpmajaa.apart