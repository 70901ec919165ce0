/- Own layer: the walk's events, said without a walk: the step. No program in sight. -/
import Derived.Test.YtijhkfhflpmajaaPK
import Derived.Test.YtijhkfhflpmajaaPJ
set_option linter.unusedSimpArgs false
set_option linter.unusedVariables false
namespace Go.Rt
open Go Go.Sx Classical
theorem nx1_clock (w : Wlk) (e : Ent) : (nx1 w e).clock = w.clock := by
  unfold nx1 closeW; cases endsE w e <;> simp only [cond_true, cond_false]; split <;> rfl
theorem nextW_clock (w : Wlk) (e : Ent) : (nextW w e).clock = w.clock := by
  have h2 : ∀ w : Wlk, (nx2 w e).clock = w.clock := fun w => by unfold nx2; cases newFam w e <;> rfl
  have h3 : ∀ w : Wlk, (nx3 w e).clock = w.clock := fun w => by unfold nx3; cases newCol w e <;> rfl
  have h4 : (nx4 (nx3 (nx2 (nx1 w e) e) e) e).clock = w.clock := (h3 _).trans ((h2 _).trans (nx1_clock w e))
  rw [← h4]
  unfold nextW nx5 verW
  repeat' split
  all_goals rfl
theorem pairwise_ne {p : List Ent} (h : p.Pairwise fun a b => a.seq ≠ b.seq) {a b : Ent} (ha : a ∈ p) (hb : b ∈ p) (hne : a ≠ b) : a.seq ≠ b.seq := by
  induction p with
  | nil => cases ha
  | cons x p ih =>
    obtain ⟨hx, hp⟩ := List.pairwise_cons.1 h
    rcases List.mem_cons.1 ha with e1 | ha'
    · rcases List.mem_cons.1 hb with e2 | hb'
      · exact absurd (e1.trans e2.symm) hne
      · rw [e1]; exact hx b hb'
    · rcases List.mem_cons.1 hb with e2 | hb'
      · rw [e2]; exact (hx a ha').symm
      · exact ih hp ha' hb'
section
variable {s : List Fml} {clock : Int} {m p q : List Ent} {w : Wlk} {x e : Ent}
theorem grp_last (hm : InOrder m) (he : m = p ++ e :: q) (hx : x ∈ p) (hmx : ∀ y ∈ p, y = x ∨ compE y x < 0) {y : Ent} (hy : y ∈ p) (hg : grp y e) : grp x e := by
  have hpe := (hm.parts he).1
  have hxe := hpe x hx e (by simp)
  rcases hmx y hy with rfl | hyx
  · exact hg
  · obtain ⟨h1, h2⟩ := mates_between hyx hxe hg.2.2.1 ⟨fun h => absurd h hg.1.2, fun h => absurd h hg.2.1.2⟩
    have hx5 : x.kind ≠ 5 := fun h => hg.1.2 (h2.2 h)
    have hx4 : x.kind ≠ 4 := fun h => hg.1.1 (col_first hyx h1 hg.1.2 h)
    have hmt : mates x e := h1.symm.trans hg.2.2.1
    refine ⟨⟨hx4, hx5⟩, hg.2.1, hmt, ?_⟩
    have a1 := newer_first hyx h1 ⟨fun h => absurd h hg.1.2, fun h => absurd h hx5⟩ ⟨fun h => absurd h hg.1.1, fun h => absurd h hx4⟩
    have a2 := newer_first hxe hmt ⟨fun h => absurd h hx5, fun h => absurd h hg.2.1.2⟩ ⟨fun h => absurd h hx4, fun h => absurd h hg.2.1.1⟩
    have a3 := hg.2.2.2
    omega
theorem grp_whole (hm : InOrder m) (he : m = p ++ e :: q) (hi : Inv s clock m p w x) (ho : w.opn = true) (hne : ¬ grp w.ge e) : ∀ z ∈ m, grp z w.ge → z ∈ p := by
  intro z hz hg
  obtain ⟨hgp, hgx, _, _⟩ := hi.gr ho
  rw [he] at hz
  rcases List.mem_append.1 hz with h | h
  · exact h
  · exfalso
    rcases List.mem_cons.1 h with rfl | h
    · exact hne hg.symm
    · have hpe := (hm.parts he).1 w.ge hgp
      have hge := hpe e (by simp)
      have hez : compE e z < 0 := by
        have hs := hm.srt
        rw [he] at hs
        have := (List.pairwise_append.1 hs).2.1
        exact (List.pairwise_cons.1 this).1 z h
      apply hne
      obtain ⟨h1, h2⟩ := mates_between hge hez hg.2.2.1.symm ⟨fun h => absurd h hgx.1.2, fun h => absurd h hg.1.2⟩
      have he5 : e.kind ≠ 5 := fun h => hgx.1.2 (h2.2 h)
      have he4 : e.kind ≠ 4 := fun h => hgx.1.1 (col_first hge h1 hgx.1.2 h)
      refine ⟨hgx.1, ⟨he4, he5⟩, h1, ?_⟩
      have a1 := newer_first hge h1 ⟨fun h => absurd h hgx.1.2, fun h => absurd h he5⟩ ⟨fun h => absurd h hgx.1.1, fun h => absurd h he4⟩
      have a2 := newer_first hez (h1.symm.trans hg.2.2.1.symm) ⟨fun h => absurd h he5, fun h => absurd h hg.1.2⟩ ⟨fun h => absurd h he4, fun h => absurd h hg.1.1⟩
      have a3 := hg.2.2.2
      omega
theorem nx1_case (hm : InOrder m) (he : m = p ++ e :: q) (hi : Inv s clock m p w x) :
    (w.opn = true ∧ grp w.ge e ∧ nx1 w e = w ∧ ev1 w e = [] ∧ pend s clock m w = [.g (decD s clock m w.ge)]) ∨
    ((∀ y ∈ p, ¬ grp y e) ∧ (nx1 w e).opn = false ∧ ev1 w e = pend s clock m w ∧ (nx1 w e).rank = w.rank + (if w.opn = true ∧ counted s clock m w.ge then 1 else 0)) := by
  cases ho : w.opn with
  | true =>
    obtain ⟨hgp, hgx, hgf, hgl⟩ := hi.gr ho
    by_cases hg : grp w.ge e
    · left
      have h1 := (ends_false ho hgx.1).2 hg
      refine ⟨rfl, hg, by unfold nx1; rw [h1]; rfl, by unfold ev1; rw [h1]; rfl, by unfold pend; rw [if_pos ho]⟩
    · right
      have h1 : endsE w e = true := by
        cases h : endsE w e
        · exact absurd ((ends_false ho hgx.1).1 h) hg
        · rfl
      obtain ⟨h2, h3⟩ := close_eq hm he hi ho (grp_whole hm he hi ho hg)
      refine ⟨fun y hy hge => hg (hgx.trans (grp_last hm he hi.xp hi.mx hy hge)), ?_, ?_, ?_⟩
      · unfold nx1; rw [h1]; show (closeW w).opn = false; unfold closeW; rw [if_neg (by rw [ho]; decide)]
      · unfold ev1 pend closeV; rw [h1, if_pos ho]; show (if w.opn = false then [] else [Ev.g (decOf w)]) = _
        rw [if_neg (by rw [ho]; decide), h2]
      · unfold nx1; rw [h1]; show (closeW w).rank = _
        rw [h3]; simp
  | false =>
    right
    have h1 : endsE w e = false := by unfold endsE; rw [ho]; rfl
    refine ⟨fun y hy hge => ?_, by unfold nx1; rw [h1]; exact ho, by unfold ev1 pend; rw [h1, ho]; rfl, by unfold nx1; rw [h1]; simp⟩
    have := hi.op.2 (grp_last hm he hi.xp hi.mx hy hge).1
    rw [ho] at this; simp at this
theorem fm4 (hm : InOrder m) (he : m = p ++ e :: q) (hi : Inv s clock m p w x) :
    (∀ y ∈ p, y.kind = 5 → famOf y e → y.ts ≤ if famOf x e then w.famMask else 0) ∧ ((if famOf x e then w.famMask else 0) = 0 ∨ ∃ y ∈ p, y.kind = 5 ∧ famOf y e ∧ y.ts = if famOf x e then w.famMask else 0) := by
  have hxe := (hm.parts he).1 x hi.xp e (by simp)
  have key : ∀ y ∈ p, famOf y e → famOf y x ∧ famOf x e := fun y hy hf => by
    rcases hi.mx y hy with rfl | hyx
    · exact ⟨.refl _, hf⟩
    · have := famOf_between hyx hxe hf
      exact ⟨this, this.symm.trans hf⟩
  by_cases hx : famOf x e
  · rw [if_pos hx]
    refine ⟨fun y hy h5 hf => hi.fm y hy h5 (key y hy hf).1, ?_⟩
    rcases hi.fm0 with h | ⟨y, hy, h5, hf, ht⟩
    · exact .inl h
    · exact .inr ⟨y, hy, h5, hf.trans hx, ht⟩
  · rw [if_neg hx]
    exact ⟨fun y hy h5 hf => absurd (key y hy hf).2 hx, .inl rfl⟩
theorem col_key (hm : InOrder m) (he : m = p ++ e :: q) (hi : Inv s clock m p w x) {y : Ent} (hy : y ∈ p) (h5 : y.kind ≠ 5) (hmt : mates y e) : mates y x ∧ mates x e ∧ x.kind ≠ 5 ∧ e.kind ≠ 5 := by
  have hpe := (hm.parts he).1
  have hxe := hpe x hi.xp e (by simp)
  have he5 : e.kind ≠ 5 := fun h => h5 (fam_first (hpe y hy e (by simp)) hmt.1 h)
  rcases hi.mx y hy with rfl | hyx
  · exact ⟨.refl _, hmt, h5, he5⟩
  · obtain ⟨h1, h2⟩ := mates_between hyx hxe hmt ⟨fun h => absurd h h5, fun h => absurd h he5⟩
    exact ⟨h1, h1.symm.trans hmt, fun h => h5 (h2.2 h), he5⟩
theorem cm4 (hm : InOrder m) (he : m = p ++ e :: q) (hi : Inv s clock m p w x) :
    (∀ y ∈ p, y.kind = 4 → mates y e → y.ts ≤ if mates x e ∧ x.kind ≠ 5 ∧ e.kind ≠ 5 then w.colMask else 0) ∧
    ((if mates x e ∧ x.kind ≠ 5 ∧ e.kind ≠ 5 then w.colMask else 0) = 0 ∨ ∃ y ∈ p, y.kind = 4 ∧ mates y e ∧ y.ts = if mates x e ∧ x.kind ≠ 5 ∧ e.kind ≠ 5 then w.colMask else 0) := by
  by_cases hx : mates x e ∧ x.kind ≠ 5 ∧ e.kind ≠ 5
  · rw [if_pos hx]
    refine ⟨fun y hy h4 hf => hi.cm y hy h4 (col_key hm he hi hy (by omega) hf).1, ?_⟩
    rcases hi.cm0 with h | ⟨y, hy, h4, hf, ht⟩
    · exact .inl h
    · exact .inr ⟨y, hy, h4, hf.trans hx.1, ht⟩
  · rw [if_neg hx]
    exact ⟨fun y hy h4 hf => absurd (col_key hm he hi hy (by omega) hf).2 hx, .inl rfl⟩
theorem rk4 (hm : InOrder m) (he : m = p ++ e :: q) (hi : Inv s clock m p w x) :
    (if mates x e ∧ x.kind ≠ 5 ∧ e.kind ≠ 5 then (nx1 w e).rank else 0) = ((p.filter fun y => decide (counted s clock m y ∧ mates y e ∧ e.ts < y.ts)).length : Nat) := by
  have hpe := (hm.parts he).1
  have hxe := hpe x hi.xp e (by simp)
  by_cases hx : mates x e ∧ x.kind ≠ 5 ∧ e.kind ≠ 5
  · rw [if_pos hx]
    obtain ⟨hxm, hx5, he5⟩ := hx
    rcases nx1_case hm he hi with ⟨ho, hg, h1, _, _⟩ | ⟨hno, h1, _, h3⟩
    · rw [h1, hi.rk]
      have hgx := (hi.gr ho).2.1
      have hts : x.ts = e.ts := by rw [← hgx.2.2.2]; exact hg.2.2.2
      congr 1
      refine count_same fun y hy => ?_
      rw [hts]
      exact ⟨fun ⟨a, b, c⟩ => ⟨a, b.trans hxm, c⟩, fun ⟨a, b, c⟩ => ⟨a, b.trans hxm.symm, c⟩⟩
    · rw [h3, hi.rk]
      cases ho : w.opn with
      | true =>
        obtain ⟨hgp, hgx, hgf, _⟩ := hi.gr ho
        have hxv := hgx.2.1
        have he4 : e.kind ≠ 4 := fun h => hxv.1 (col_first hxe hxm hx5 h)
        have hlt : e.ts < x.ts := by
          rcases newer_first hxe hxm ⟨fun h => absurd h hx5, fun h => absurd h he5⟩ ⟨fun h => absurd h hxv.1, fun h => absurd h he4⟩ with h | h
          · exact h
          · exact absurd ⟨hxv, ⟨he4, he5⟩, hxm, h.1.symm⟩ (hno x hi.xp)
        have hsp := count_split (p := p) (A := fun y => counted s clock m y ∧ mates y e ∧ e.ts < y.ts) (B := fun y => counted s clock m y ∧ mates y x ∧ x.ts < y.ts) (C := fun y => y = w.ge ∧ counted s clock m w.ge)
          (fun y hy => by
            constructor
            · rintro ⟨a, b, c⟩
              have hyx := b.trans hxm.symm
              have hge : x.ts ≤ y.ts := by
                rcases hi.mx y hy with rfl | h
                · omega
                · rcases newer_first h hyx ⟨fun h => absurd h a.1.1.2, fun h => absurd h hx5⟩ ⟨fun h => absurd h a.1.1.1, fun h => absurd h hxv.1⟩ with h | h <;> omega
              by_cases hlt2 : x.ts < y.ts
              · exact .inl ⟨a, hyx, hlt2⟩
              · right
                have hyg : grp y w.ge := ⟨a.1.1, hgx.1, hyx.trans hgx.2.2.1.symm, by have := hgx.2.2.2; omega⟩
                have hpm : ∀ z ∈ p, z ∈ m := fun z hz => by rw [he]; exact List.mem_append_left _ hz
                have h1 := a.1.2 w.ge (hpm _ hgp) hyg.symm
                have h2 := hgf.2 y (hpm _ hy) hyg
                have h3 : y = w.ge := by
                  have hseq := (hm.parts he).2.1
                  by_cases hne : y = w.ge
                  · exact hne
                  · exfalso
                    have := pairwise_ne hseq hy hgp hne
                    omega
                exact ⟨h3, h3 ▸ a⟩
            · rintro (⟨a, b, c⟩ | ⟨rfl, a⟩)
              · exact ⟨a, b.trans hxm, by omega⟩
              · exact ⟨a, hgx.2.2.1.trans hxm, by have := hgx.2.2.2; omega⟩)
          (fun y hy ⟨⟨_, _, c⟩, ⟨d, _⟩⟩ => by subst d; have := hgx.2.2.2; omega)
        rw [hsp, count_one (hm.parts he).2.1 hgp]
        by_cases hc : counted s clock m w.ge <;> simp [hc]
      | false =>
        have hx4 : x.kind = 4 := by
          rcases Decidable.em (x.kind = 4) with h | h
          · exact h
          · have := hi.op.2 ⟨h, hx5⟩; rw [ho] at this; simp at this
        have hnone : ∀ y ∈ p, counted s clock m y → mates y x → False := fun y hy a b => by
          rcases hi.mx y hy with rfl | h
          · exact a.1.1.1 hx4
          · exact a.1.1.1 (col_first h b a.1.1.2 hx4)
        rw [count_none (A := fun y => counted s clock m y ∧ mates y x ∧ x.ts < y.ts) fun y hy ⟨a, b, _⟩ => hnone y hy a b,
          count_none (A := fun y => counted s clock m y ∧ mates y e ∧ e.ts < y.ts) fun y hy ⟨a, b, _⟩ => hnone y hy a (b.trans hxm.symm)]
        simp
  · rw [if_neg hx, count_none (A := fun y => counted s clock m y ∧ mates y e ∧ e.ts < y.ts) fun y hy ⟨a, b, _⟩ => hx (col_key hm he hi hy a.1.1.2 b).2]
    rfl
theorem nx5_opn {w : Wlk} {e : Ent} : (nx5 w e).any = w.any ∧ (nx5 w e).last = w.last ∧ (nx5 w e).rank = w.rank ∧ (nx5 w e).famMask = (if e.kind = 5 then max w.famMask e.ts else w.famMask) ∧ (nx5 w e).colMask = (if e.kind = 4 then max w.colMask e.ts else w.colMask) := by
  unfold nx5 verW
  by_cases h5 : e.kind = 5
  · have h4 : e.kind ≠ 4 := by omega
    simp [h5]
  · by_cases h4 : e.kind = 4
    · simp [h4]
    · simp only [h5, h4, if_false]
      split <;> exact ⟨rfl, rfl, rfl, rfl, rfl⟩
theorem first_new (hm : InOrder m) (he : m = p ++ e :: q) (hv : ver e) (hno : ∀ y ∈ p, ¬ grp y e) : first m e := by
  refine ⟨hv, fun y hy hg => ?_⟩
  rw [he] at hy
  rcases List.mem_append.1 hy with h | h
  · exact absurd hg (hno y h)
  · rcases List.mem_cons.1 h with rfl | h
    · omega
    · have hs := hm.srt
      rw [he] at hs
      have hez := (List.pairwise_cons.1 (List.pairwise_append.1 hs).2.1).1 y h
      rcases newer_first hez hg.2.2.1.symm ⟨fun h => absurd h hv.2, fun h => absurd h hg.1.2⟩ ⟨fun h => absurd h hv.1, fun h => absurd h hg.1.1⟩ with h | h
      · have := hg.2.2.2; omega
      · exact h.2
theorem e_before (hm : InOrder m) (he : m = p ++ e :: q) : ∀ z ∈ q, compE e z < 0 := fun z h => by
  have hs := hm.srt
  rw [he] at hs
  exact (List.pairwise_cons.1 (List.pairwise_append.1 hs).2.1).1 z h
theorem top5_iff (hm : InOrder m) (he : m = p ++ e :: q) (h5 : e.kind = 5) : top5 m e ↔ ∀ y ∈ p, y.kind = 5 → ¬ famOf y e := by
  have hq : ∀ y, y ∈ m → y.kind = 5 → y.qual = e.qual := fun y hy h => by
    rw [(hm.good y hy).qual h, (hm.good e (by rw [he]; simp)).qual h5]
  have hpm : ∀ z ∈ p, z ∈ m := fun z hz => by rw [he]; exact List.mem_append_left _ hz
  constructor
  · intro h y hy h5' hf
    have h1 := h y (hpm y hy) h5' hf
    have hlt := (hm.parts he).1 y hy e (by simp)
    have h2 := newer_first hlt ⟨hf, hq y (hpm y hy) h5'⟩ ⟨fun _ => h5, fun _ => h5'⟩ ⟨fun h => by omega, fun h => by omega⟩
    have h3 := (hm.parts he).2.2 y hy e (by simp)
    omega
  · intro h y hy h5' hf
    have hy0 := hy
    rw [he] at hy
    rcases List.mem_append.1 hy with hy | hy
    · exact absurd hf (h y hy h5')
    · rcases List.mem_cons.1 hy with rfl | hy
      · exact .inr ⟨rfl, Int.le_refl _⟩
      · exact newer_first (e_before hm he y hy) ⟨hf.symm, (hq y hy0 h5').symm⟩ ⟨fun _ => h5', fun _ => h5⟩ ⟨fun h => by omega, fun h => by omega⟩
theorem top4_iff (hm : InOrder m) (he : m = p ++ e :: q) (h4 : e.kind = 4) : top4 m e ↔ (∀ y ∈ p, y.kind = 4 → ¬ mates y e) ∧ ∀ y ∈ p, y.kind = 5 → famOf y e → y.ts < e.ts := by
  have hpm : ∀ z ∈ p, z ∈ m := fun z hz => by rw [he]; exact List.mem_append_left _ hz
  constructor
  · rintro ⟨h, h'⟩
    refine ⟨fun y hy h4' hf => ?_, fun y hy => h' y (hpm y hy)⟩
    have h1 := h y (hpm y hy) h4' hf
    have hlt := (hm.parts he).1 y hy e (by simp)
    have h2 := newer_first hlt hf ⟨fun h => by omega, fun h => by omega⟩ ⟨fun _ => h4, fun _ => h4'⟩
    have h3 := (hm.parts he).2.2 y hy e (by simp)
    omega
  · rintro ⟨h, h'⟩
    refine ⟨fun y hy h4' hf => ?_, fun y hy h5 hf => ?_⟩
    · rw [he] at hy
      rcases List.mem_append.1 hy with hy | hy
      · exact absurd hf (h y hy h4')
      · rcases List.mem_cons.1 hy with rfl | hy
        · exact .inr ⟨rfl, Int.le_refl _⟩
        · exact newer_first (e_before hm he y hy) hf.symm ⟨fun h => by omega, fun h => by omega⟩ ⟨fun _ => h4', fun _ => h4⟩
    · rw [he] at hy
      rcases List.mem_append.1 hy with hy | hy
      · exact h' y hy h5 hf
      · rcases List.mem_cons.1 hy with rfl | hy
        · omega
        · have := fam_first (e_before hm he y hy) hf.symm h5; omega
theorem inv_of (hm : InOrder m) (he : m = p ++ e :: q) (w' : Wlk) (hs : w'.s = s) (hc : w'.clock = clock) (ha : w'.any = true) (hl : w'.last = e) (F C : Int)
    (f1 : ∀ y ∈ p, y.kind = 5 → famOf y e → y.ts ≤ F) (f2 : F = 0 ∨ ∃ y ∈ p, y.kind = 5 ∧ famOf y e ∧ y.ts = F)
    (c1 : ∀ y ∈ p, y.kind = 4 → mates y e → y.ts ≤ C) (c2 : C = 0 ∨ ∃ y ∈ p, y.kind = 4 ∧ mates y e ∧ y.ts = C)
    (hF : w'.famMask = if e.kind = 5 then max F e.ts else F) (hC : w'.colMask = if e.kind = 4 then max C e.ts else C)
    (hr : w'.rank = ((p.filter fun y => decide (counted s clock m y ∧ mates y e ∧ e.ts < y.ts)).length : Nat))
    (ho : w'.opn = true ↔ ver e) (hg : w'.opn = true → w'.ge ∈ p ++ [e] ∧ grp w'.ge e ∧ first m w'.ge ∧ (w'.lone = true ↔ ∀ y ∈ p ++ [e], grp y e → y.kind = 3)) : Inv s clock m (p ++ [e]) w' e where
  hs := hs
  hc := hc
  any := ha
  last := hl
  xp := by simp
  mx := fun y hy => by
    rcases List.mem_append.1 hy with h | h
    · exact .inr ((hm.parts he).1 y h e (by simp))
    · exact .inl (by simpa using h)
  fm := fun y hy h5 hf => by
    rw [hF]
    rcases List.mem_append.1 hy with h | h
    · have := f1 y h h5 hf
      split <;> omega
    · have h : y = e := by simpa using h
      subst h
      rw [if_pos h5]; omega
  fm0 := by
    rw [hF]
    by_cases h5 : e.kind = 5
    · rw [if_pos h5]
      rcases Int.le_total F e.ts with h | h
      · exact .inr ⟨e, by simp, h5, .refl e, by omega⟩
      · rcases f2 with h0 | ⟨y, hy, a, b, c⟩
        · have := (hm.good e (by rw [he]; simp)).ts; omega
        · exact .inr ⟨y, by simp [hy], a, b, by omega⟩
    · rw [if_neg h5]
      rcases f2 with h0 | ⟨y, hy, a, b, c⟩
      · exact .inl h0
      · exact .inr ⟨y, by simp [hy], a, b, c⟩
  cm := fun y hy h4 hf => by
    rw [hC]
    rcases List.mem_append.1 hy with h | h
    · have := c1 y h h4 hf
      split <;> omega
    · have h : y = e := by simpa using h
      subst h
      rw [if_pos h4]; omega
  cm0 := by
    rw [hC]
    by_cases h4 : e.kind = 4
    · rw [if_pos h4]
      rcases Int.le_total C e.ts with h | h
      · exact .inr ⟨e, by simp, h4, .refl e, by omega⟩
      · rcases c2 with h0 | ⟨y, hy, a, b, c⟩
        · have := (hm.good e (by rw [he]; simp)).ts; omega
        · exact .inr ⟨y, by simp [hy], a, b, by omega⟩
    · rw [if_neg h4]
      rcases c2 with h0 | ⟨y, hy, a, b, c⟩
      · exact .inl h0
      · exact .inr ⟨y, by simp [hy], a, b, c⟩
  rk := by
    rw [hr, List.filter_append, List.length_append]
    have : (([e] : List Ent).filter fun y => decide (counted s clock m y ∧ mates y e ∧ e.ts < y.ts)).length = 0 := count_none (A := fun y => counted s clock m y ∧ mates y e ∧ e.ts < y.ts) fun y hy ⟨_, _, h⟩ => by
      have : y = e := by simpa using hy
      subst this; omega
    rw [this, Nat.add_zero]
  op := ho
  gr := hg
theorem mask0 {F : Int} {A : Ent → Prop} (hp : ∀ y ∈ p, 1 ≤ y.ts) (f1 : ∀ y ∈ p, A y → y.ts ≤ F) (f2 : F = 0 ∨ ∃ y ∈ p, A y ∧ y.ts = F) : (F == 0) = decide (∀ y ∈ p, ¬ A y) := by
  by_cases h : ∀ y ∈ p, ¬ A y
  · rcases f2 with h0 | ⟨y, hy, a, _⟩
    · subst h0; simp; exact h
    · exact absurd a (h y hy)
  · have : F ≠ 0 := fun h0 => h fun y hy a => by have := f1 y hy a; have := hp y hy; omega
    simp only [h, decide_false]
    simpa using this
theorem mask0' {F : Int} {A : Ent → Prop} (hp : ∀ y ∈ p, 1 ≤ y.ts) (f1 : ∀ y ∈ p, A y → y.ts ≤ F) (f2 : F = 0 ∨ ∃ y ∈ p, A y ∧ y.ts = F) : F = 0 ↔ ∀ y ∈ p, ¬ A y := by
  constructor
  · intro h0 y hy a; have := f1 y hy a; have := hp y hy; omega
  · intro h
    rcases f2 with h0 | ⟨y, hy, a, _⟩
    · exact h0
    · exact absurd a (h y hy)
theorem step (hm : InOrder m) (he : m = p ++ e :: q) (hi : Inv s clock m p w x) :
    (evN w e).filter notO ++ pend s clock m (nextW w e) = pend s clock m w ++ evD s clock m e ∧ Inv s clock m (p ++ [e]) (nextW w e) e := by
  have h4 := nx4_fields (e := e) hi.any hi.last
  obtain ⟨f1, f2⟩ := fm4 hm he hi
  obtain ⟨c1, c2⟩ := cm4 hm he hi
  have hr4 := rk4 hm he hi
  have hpm : ∀ z ∈ p, z ∈ m := fun z hz => by rw [he]; exact List.mem_append_left _ hz
  have hp1 : ∀ y ∈ p, 1 ≤ y.ts := fun y hy => (hm.good y (hpm y hy)).ts
  have hs' : (nextW w e).s = s := by rw [nextW_s, hi.hs]
  have hc' : (nextW w e).clock = clock := by rw [nextW_clock, hi.hc]
  have hn : nextW w e = nx5 (nx4 (nx3 (nx2 (nx1 w e) e) e) e) e := rfl
  generalize hF : (if famOf x e then w.famMask else 0) = F at *
  generalize hC : (if mates x e ∧ x.kind ≠ 5 ∧ e.kind ≠ 5 then w.colMask else 0) = C at *
  generalize hw4 : nx4 (nx3 (nx2 (nx1 w e) e) e) e = w4 at *
  obtain ⟨n1, n2, n3, n4, n5⟩ := nx5_opn (w := w4) (e := e)
  have w4a : w4.any = true ∧ w4.last = e ∧ w4.famMask = F ∧ w4.colMask = C ∧ w4.rank = ((p.filter fun y => decide (counted s clock m y ∧ mates y e ∧ e.ts < y.ts)).length : Nat) ∧ w4.opn = (nx1 w e).opn ∧ w4.ge = (nx1 w e).ge ∧ w4.lone = (nx1 w e).lone := by
    rw [h4]; exact ⟨rfl, rfl, rfl, rfl, hr4, rfl, rfl, rfl⟩
  obtain ⟨a1, a2, a3, a4, a5, a6, a7, a8⟩ := w4a
  rw [← hn] at n1 n2 n3 n4 n5
  have mk := inv_of hm he (nextW w e) hs' hc' (n1.trans a1) (n2.trans a2) F C f1 f2 c1 c2 (by rw [n4, a3]) (by rw [n5, a4]) (n3.trans a5)
  have hev : (evN w e) = ev1 w e ++ ev5 w4 e := by unfold evN; rw [hw4]
  rw [hev, List.filter_append]
  rcases nx1_case hm he hi with ⟨ho, hg, h1, he1, hpd⟩ | ⟨hno, ho, he1, _⟩
  · -- the group goes on
    obtain ⟨hgp, hgx, hgf, hgl⟩ := hi.gr ho
    have hv := hg.2.1
    have e5 : ev5 w4 e = [.o] := by
      unfold ev5; rw [if_neg hv.2, if_neg hv.1, a6, h1, ho]; rfl
    have hnw : (nextW w e).opn = true ∧ (nextW w e).ge = w.ge ∧ (nextW w e).lone = if e.kind ≠ 3 then false else w.lone := by
      rw [hn]; unfold nx5 verW
      rw [if_neg hv.2, if_neg hv.1, if_neg (by rw [a6, h1, ho]; decide)]
      exact ⟨by show w4.opn = true; rw [a6, h1, ho], by show w4.ge = w.ge; rw [a7, h1], by show (if e.kind ≠ 3 then false else w4.lone) = _; rw [a8, h1]⟩
    refine ⟨?_, mk ⟨fun _ => hv, fun _ => hnw.1⟩ fun _ => ?_⟩
    · rw [he1, e5]
      have hnf : ¬ first m e := fun hf => by
        have h1 := hf.2 w.ge (hpm _ hgp) hg
        have h2 := hgf.2 e (by rw [he]; simp) hg.symm
        have h3 := (hm.parts he).2.2 w.ge hgp e (by simp)
        omega
      have : evD s clock m e = [] := by unfold evD; rw [if_neg hv.2, if_neg hv.1, if_neg hnf]
      rw [this, List.append_nil]
      unfold pend
      rw [if_pos hnw.1, if_pos ho, hnw.2.1]
      rfl
    · rw [hnw.2.1, hnw.2.2]
      refine ⟨List.mem_append_left _ hgp, hg, hgf, ?_⟩
      have hxe : grp x e := hgx.symm.trans hg
      constructor
      · intro h y hy hge
        by_cases hk : e.kind = 3
        · rw [if_neg (by simp [hk])] at h
          rcases List.mem_append.1 hy with hy | hy
          · exact hgl.1 h y hy (hge.trans hxe.symm)
          · have : y = e := by simpa using hy
            rw [this, hk]
        · rw [if_pos hk] at h; simp at h
      · intro h
        have hk := h e (by simp) (.refl hv)
        rw [if_neg (by simp [hk])]
        exact hgl.2 fun y hy hge => h y (by simp [hy]) (hge.trans hxe)
  · -- none under way
    have hpf : (pend s clock m w).filter notO = pend s clock m w := by unfold pend; split <;> rfl
    rw [he1, hpf, List.append_assoc]
    have ho4 : w4.opn = false := a6.trans ho
    by_cases h5 : e.kind = 5
    · have hnv : ¬ ver e := fun h => h.2 h5
      have hnw : (nextW w e).opn = false := by rw [hn]; unfold nx5; rw [if_pos h5]; exact ho4
      refine ⟨?_, mk ⟨fun h => by rw [hnw] at h; simp at h, fun h => absurd h hnv⟩ fun h => by rw [hnw] at h; simp at h⟩
      congr 1
      have hm0 := mask0 (A := fun y => y.kind = 5 ∧ famOf y e) hp1 (fun y hy a => f1 y hy a.1 a.2) (by
        rcases f2 with h | ⟨y, hy, a, b, c⟩
        · exact .inl h
        · exact .inr ⟨y, hy, ⟨a, b⟩, c⟩)
      have h1 : ev5 w4 e = [.m e (decide (top5 m e))] := by
        unfold ev5; rw [if_pos h5, a3, hm0]
        congr 2
        have := top5_iff hm he h5
        simp only [this]
        congr 1
        apply propext
        exact ⟨fun h y hy a b => h y hy ⟨a, b⟩, fun h y hy a => h y hy a.1 a.2⟩
      rw [h1]
      unfold pend evD
      rw [if_neg (by rw [hnw]; decide), if_pos h5]
      rfl
    · by_cases h4' : e.kind = 4
      · have hnv : ¬ ver e := fun h => h.1 h4'
        have hnw : (nextW w e).opn = false := by rw [hn]; unfold nx5; rw [if_neg h5, if_pos h4']; exact ho4
        refine ⟨?_, mk ⟨fun h => by rw [hnw] at h; simp at h, fun h => absurd h hnv⟩ fun h => by rw [hnw] at h; simp at h⟩
        congr 1
        have hm0 : C = 0 ↔ ∀ y ∈ p, ¬ (y.kind = 4 ∧ mates y e) := mask0' (A := fun y => y.kind = 4 ∧ mates y e) hp1 (fun y hy a => c1 y hy a.1 a.2) (by
          rcases c2 with h | ⟨y, hy, a, b, c⟩
          · exact .inl h
          · exact .inr ⟨y, hy, ⟨a, b⟩, c⟩)
        have hlt : F < e.ts ↔ ∀ y ∈ p, y.kind = 5 → famOf y e → y.ts < e.ts := by
          constructor
          · intro h y hy a b; have := f1 y hy a b; omega
          · intro h
            rcases f2 with h0 | ⟨y, hy, a, b, c⟩
            · have := (hm.good e (by rw [he]; simp)).ts; omega
            · have := h y hy a b; omega
        have ht := top4_iff hm he h4'
        have h1 : ev5 w4 e = [.m e (decide (top4 m e))] := by
          unfold ev5; rw [if_neg h5, if_pos h4', a3, a4]
          congr 2
          by_cases hA : C = 0
          · have hz : (C == 0) = true := by simpa using hA
            rw [hz]
            simp only [cond_true]
            rw [decide_eq_decide, ht, hlt]
            exact ⟨fun h => ⟨fun y hy a b => hm0.1 hA y hy ⟨a, b⟩, h⟩, fun h => h.2⟩
          · have hz : (C == 0) = false := by simpa using hA
            rw [hz]
            simp only [cond_false]
            symm
            rw [decide_eq_false_iff_not, ht]
            exact fun h => hA (hm0.2 fun y hy a => h.1 y hy a.1 a.2)
        rw [h1]
        unfold pend evD
        rw [if_neg (by rw [hnw]; decide), if_neg h5, if_pos h4']
        rfl
      · have hv : ver e := ⟨h4', h5⟩
        have hf := first_new hm he hv hno
        have hnw : (nextW w e).opn = true ∧ (nextW w e).ge = e ∧ (nextW w e).lone = (e.kind == 3) := by
          rw [hn]; unfold nx5 verW
          rw [if_neg h5, if_neg h4', if_pos ho4]
          exact ⟨rfl, rfl, rfl⟩
        refine ⟨?_, mk ⟨fun _ => hv, fun _ => hnw.1⟩ fun _ => ?_⟩
        · congr 1
          have h1 : ev5 w4 e = [] := by unfold ev5; rw [if_neg h5, if_neg h4', if_pos ho4]
          rw [h1]
          unfold pend evD
          rw [if_pos hnw.1, hnw.2.1, if_neg h5, if_neg h4', if_pos hf]
          rfl
        · rw [hnw.2.1, hnw.2.2]
          refine ⟨by simp, .refl hv, hf, ?_⟩
          constructor
          · intro h y hy hge
            rcases List.mem_append.1 hy with hy | hy
            · exact absurd hge (hno y hy)
            · have : y = e := by simpa using hy
              rw [this]; simpa using h
          · intro h
            have := h e (by simp) (.refl hv)
            simpa using this
end
end Go.Rt
namespace Go.Rt
open Go Go.Sx Classical
def hsk (e : Ent) : Ent := { e with kind := 2, value := [] }
def kOf (s : List Fml) (major : Bool) (low : Int) : Ev → List Ent
  | .g d => if d.masked = true then [] else if d.expired = true then [] else if d.nothing = true ∧ major = true then [] else if d.nothing = true then [d.e]
    else if (famAt s d.e.fam).max < d.rank then [] else if d.husk = true then [hsk d.e] else [d.e]
  | .o => []
  | .m e b => if b = false ∨ major = true ∧ e.ts ≤ low then [] else [e]
theorem keptG_k (s : List Fml) (st : KSt) (d : Dec) : (keptG s st d).out = st.out ++ kOf s st.major st.low (.g d) ∧ (keptG s st d).major = st.major ∧ (keptG s st d).low = st.low := by
  unfold keptG kOf
  by_cases h1 : d.masked = true
  · simp [h1]
  by_cases h2 : d.expired = true
  · simp [h1, h2]
  by_cases h3 : d.nothing = true ∧ st.major = true
  · simp [h1, h2, h3]
  by_cases h4 : d.nothing = true
  · have h3' : st.major = false := by cases h : st.major; rfl; exact absurd ⟨h4, h⟩ h3
    simp [h1, h2, h4, h3']
  by_cases h5 : (famAt s d.e.fam).max < d.rank
  · simp [h1, h2, h4, h5]
  by_cases h6 : d.husk = true
  · simp [h1, h2, h4, h5, h6, hsk]
  · simp [h1, h2, h4, h5, h6]
section
variable (s : List Fml) (clock : Int) (major : Bool) (low : Int) (m : List Ent)
def keeps (e : Ent) : Prop :=
  if e.kind = 5 then top5 m e ∧ ¬ (major = true ∧ e.ts ≤ low)
  else if e.kind = 4 then top4 m e ∧ ¬ (major = true ∧ e.ts ≤ low)
  else first m e ∧ ¬ isOut s clock m e ∧ (if lone m e then major = false else (above s clock m e : Int) < (famAt s e.fam).max)
noncomputable def form (e : Ent) : Ent := if ver e ∧ ¬ lone m e ∧ (e.kind = 2 ∨ e.kind = 3) then hsk e else e
noncomputable def keepD (e : Ent) : List Ent := if keeps s clock major low m e then [form m e] else []
end
end Go.Rt
namespace Go.Rt
open Go Go.Sx Classical
theorem form_cases (m : List Ent) (e : Ent) : (form m e = e ∧ ¬ (ver e ∧ ¬ lone m e ∧ (e.kind = 2 ∨ e.kind = 3))) ∨ (form m e = hsk e ∧ ver e ∧ ¬ lone m e ∧ (e.kind = 2 ∨ e.kind = 3)) := by
  unfold form
  by_cases h : ver e ∧ ¬ lone m e ∧ (e.kind = 2 ∨ e.kind = 3)
  · right; rw [if_pos h]; exact ⟨rfl, h⟩
  · left; rw [if_neg h]; exact ⟨rfl, h⟩
structure Like (a b : Ent) : Prop where
  row : a.row = b.row
  fam : a.fam = b.fam
  qual : a.qual = b.qual
  ts : a.ts = b.ts
  seq : a.seq = b.seq
  k5 : a.kind = 5 ↔ b.kind = 5
  k4 : a.kind = 4 ↔ b.kind = 4
theorem form_like (m : List Ent) (e : Ent) : Like (form m e) e := by
  rcases form_cases m e with ⟨h, _⟩ | ⟨h, hv, _⟩
  · rw [h]; exact ⟨rfl, rfl, rfl, rfl, rfl, .rfl, .rfl⟩
  · rw [h]; exact ⟨rfl, rfl, rfl, rfl, rfl, ⟨fun h => by simp [hsk] at h, fun h => absurd h hv.2⟩, ⟨fun h => by simp [hsk] at h, fun h => absurd h hv.1⟩⟩
section
variable {a b a' b' : Ent}
theorem Like.ver (h : Like a b) : Rt.ver a ↔ Rt.ver b := by unfold Rt.ver; simp only [ne_eq, h.k4, h.k5]
theorem Like.fams (h : Like a b) (h' : Like a' b') : famOf a a' ↔ famOf b b' := by unfold famOf; rw [h.fam, h.row, h'.fam, h'.row]
theorem Like.mate (h : Like a b) (h' : Like a' b') : mates a a' ↔ mates b b' := by unfold mates; rw [h.fams h', h.qual, h'.qual]
theorem Like.grps (h : Like a b) (h' : Like a' b') : grp a a' ↔ grp b b' := by unfold grp; rw [h.ver, h'.ver, h.mate h', h.ts, h'.ts]
theorem Like.refl (a : Ent) : Like a a := ⟨rfl, rfl, rfl, rfl, rfl, .rfl, .rfl⟩
theorem Like.symm (h : Like a b) : Like b a := ⟨h.row.symm, h.fam.symm, h.qual.symm, h.ts.symm, h.seq.symm, h.k5.symm, h.k4.symm⟩
end
section
variable {s : List Fml} {clock : Int} {mj mj' : Bool} {low : Int} {m : List Ent}
theorem first_uniq (hm : InOrder m) {y z : Ent} (hy : y ∈ m) (hz : z ∈ m) (h1 : first m y) (h2 : first m z) (hg : grp y z) : y = z := by
  by_cases h : y = z
  · exact h
  · exfalso
    have h3 := pairwise_ne hm.seq hy hz h
    have h4 := h1.2 z hz hg.symm
    have h5 := h2.2 y hy hg
    omega
theorem mem_T {x : Ent} : x ∈ m.flatMap (keepD s clock mj low m) ↔ ∃ y ∈ m, keeps s clock mj low m y ∧ x = form m y := by
  rw [List.mem_flatMap]
  constructor
  · rintro ⟨y, hy, hx⟩
    unfold keepD at hx
    split at hx
    · rename_i hk; exact ⟨y, hy, hk, by simpa using hx⟩
    · cases hx
  · rintro ⟨y, hy, hk, rfl⟩
    exact ⟨y, hy, by unfold keepD; rw [if_pos hk]; simp⟩
theorem keeps_ver {y : Ent} (hv : ver y) : keeps s clock mj low m y ↔ first m y ∧ ¬ isOut s clock m y ∧ (if lone m y then mj = false else (above s clock m y : Int) < (famAt s y.fam).max) := by
  unfold keeps; rw [if_neg hv.2, if_neg hv.1]
theorem filter_flat {P Q : Ent → Prop} [DecidablePred P] [DecidablePred Q] : ∀ (l : List Ent), (∀ z ∈ l, keeps s clock mj low m z → P (form m z) → Q z) →
    ((l.flatMap (keepD s clock mj low m)).filter fun x => decide (P x)).length ≤ (l.filter fun x => decide (Q x)).length
  | [], _ => by simp
  | e :: l, h => by
    have ih := filter_flat l fun z hz => h z (by simp [hz])
    rw [List.flatMap_cons, List.filter_append, List.length_append, List.filter_cons]
    have h1 : ((keepD s clock mj low m e).filter fun x => decide (P x)).length ≤ if Q e then 1 else 0 := by
      unfold keepD
      split
      · rename_i hk
        by_cases hp : P (form m e)
        · rw [if_pos (h e (by simp) hk hp)]; simp [hp]
        · simp [hp]
      · simp
    by_cases hq : Q e
    · rw [if_pos hq] at h1
      simp only [hq, decide_true, if_true, List.length_cons]; omega
    · rw [if_neg hq] at h1
      simp only [hq, decide_false, Bool.false_eq_true, if_false]; omega
section
variable (hm : InOrder m) {y : Ent} (hy : y ∈ m) (hk : keeps s clock mj low m y)
include hm hy hk
theorem T_grp (hv : ver y) {x : Ent} (hx : x ∈ m.flatMap (keepD s clock mj low m)) (hg : grp x (form m y)) : x = form m y := by
  obtain ⟨z, hz, hkz, rfl⟩ := mem_T.1 hx
  have hg' := ((form_like m z).grps (form_like m y)).1 hg
  have h1 := ((keeps_ver hv).1 hk).1
  have h2 := ((keeps_ver hg'.1).1 hkz).1
  rw [first_uniq hm hz hy h2 h1 hg']
theorem T_lone (hv : ver y) : lone (m.flatMap (keepD s clock mj low m)) (form m y) ↔ lone m y := by
  have hym := mem_T.2 ⟨y, hy, hk, rfl⟩
  have h1 := ((keeps_ver hv).1 hk).1
  have hvf := (form_like m y).ver.2 hv
  constructor
  · intro h
    have h2 := h _ hym (.refl hvf)
    rcases form_cases m y with ⟨h3, h4⟩ | ⟨h3, _, _, _⟩
    · rw [h3] at h2
      by_cases hl : lone m y
      · exact hl
      · exact absurd ⟨hv, hl, .inr h2⟩ h4
    · rw [h3] at h2; simp [hsk] at h2
  · intro h x hx hg
    rw [T_grp hm hy hk hv hx hg]
    rcases form_cases m y with ⟨h3, _⟩ | ⟨_, _, h4, _⟩
    · rw [h3]; exact h y hy (.refl hv)
    · exact absurd h h4
theorem T_masked (h : masked (m.flatMap (keepD s clock mj low m)) (form m y)) : masked m y := by
  have _u1 := hm; have _u2 := hy; have _u3 := hk
  obtain ⟨x, hx, ho, ht⟩ := h
  obtain ⟨z, hz, _, rfl⟩ := mem_T.1 hx
  have hl := form_like m z
  have hly := form_like m y
  refine ⟨z, hz, ?_, by rw [← hl.ts, ← hly.ts]; exact ht⟩
  rcases ho with ⟨h5, hf⟩ | ⟨h4, hf⟩
  · exact .inl ⟨hl.k5.1 h5, (hl.fams hly).1 hf⟩
  · exact .inr ⟨hl.k4.1 h4, (hl.mate hly).1 hf⟩
theorem T_out (h : isOut s clock (m.flatMap (keepD s clock mj low m)) (form m y)) : isOut s clock m y := by
  rcases h with h | h
  · exact .inl (T_masked hm hy hk h)
  · right
    have hly := form_like m y
    unfold expd at h ⊢
    rw [hly.fam, hly.ts] at h; exact h
theorem T_first (hv : ver y) : first (m.flatMap (keepD s clock mj low m)) (form m y) :=
  ⟨(form_like m y).ver.2 hv, fun x hx hg => by rw [T_grp hm hy hk hv hx hg]; exact Int.le_refl _⟩
theorem T_above : above s clock (m.flatMap (keepD s clock mj low m)) (form m y) ≤ above s clock m y := by
  have _u1 := hm; have _u2 := hy; have _u3 := hk
  unfold above
  refine filter_flat m fun z hz hkz ⟨hc, hmt, hlt⟩ => ?_
  have hl := form_like m z
  have hly := form_like m y
  have hvz := hl.ver.1 hc.1.1
  have h1 := (keeps_ver hvz).1 hkz
  refine ⟨⟨h1.1, h1.2.1, fun h => hc.2.2 ((T_lone hm hz hkz hvz).2 h)⟩, (hl.mate hly).1 hmt, by rw [← hl.ts, ← hly.ts]; exact hlt⟩
theorem T_form : form (m.flatMap (keepD s clock mj low m)) (form m y) = form m y := by
  rcases form_cases m y with ⟨h3, h4⟩ | ⟨h3, h4, h5, h6⟩
  · by_cases hv : ver y
    · rcases form_cases (m.flatMap (keepD s clock mj low m)) (form m y) with ⟨h7, _⟩ | ⟨_, _, h8, h9⟩
      · exact h7
      · have hl : ¬ lone m y := fun h => h8 ((T_lone hm hy hk hv).2 h)
        rw [h3] at h9
        exact absurd ⟨hv, hl, h9⟩ h4
    · rcases form_cases (m.flatMap (keepD s clock mj low m)) (form m y) with ⟨h7, _⟩ | ⟨_, h8, _, _⟩
      · exact h7
      · exact absurd ((form_like m y).ver.1 h8) hv
  · rcases form_cases (m.flatMap (keepD s clock mj low m)) (form m y) with ⟨h7, _⟩ | ⟨h7, _⟩
    · exact h7
    · rw [h7, h3]; rfl
theorem T_top5 (h : top5 m y) : top5 (m.flatMap (keepD s clock mj low m)) (form m y) := by
  have _u1 := hm; have _u2 := hy; have _u3 := hk
  intro x hx h5 hf
  obtain ⟨z, hz, _, rfl⟩ := mem_T.1 hx
  have hl := form_like m z
  have hly := form_like m y
  rw [hl.ts, hl.seq, hly.ts, hly.seq]
  exact h z hz (hl.k5.1 h5) ((hl.fams hly).1 hf)
theorem T_top4 (h : top4 m y) : top4 (m.flatMap (keepD s clock mj low m)) (form m y) := by
  have _u1 := hm; have _u2 := hy; have _u3 := hk
  constructor
  · intro x hx h5 hf
    obtain ⟨z, hz, _, rfl⟩ := mem_T.1 hx
    have hl := form_like m z
    have hly := form_like m y
    rw [hl.ts, hl.seq, hly.ts, hly.seq]
    exact h.1 z hz (hl.k4.1 h5) ((hl.mate hly).1 hf)
  · intro x hx h5 hf
    obtain ⟨z, hz, _, rfl⟩ := mem_T.1 hx
    have hl := form_like m z
    have hly := form_like m y
    rw [hl.ts, hly.ts]
    exact h.2 z hz (hl.k5.1 h5) ((hl.fams hly).1 hf)
theorem keep_again : keepD s clock mj' low (m.flatMap (keepD s clock mj low m)) (form m y) = keepD s clock mj' low m y := by
  have hly := form_like m y
  have key : keeps s clock mj' low (m.flatMap (keepD s clock mj low m)) (form m y) ↔ keeps s clock mj' low m y := by
    by_cases h5 : y.kind = 5
    · have hk' := hk
      unfold keeps at hk' ⊢
      rw [if_pos (hly.k5.2 h5), if_pos h5, hly.ts]
      rw [if_pos h5] at hk'
      exact and_congr_left' ⟨fun _ => hk'.1, fun _ => T_top5 hm hy hk hk'.1⟩
    · by_cases h4 : y.kind = 4
      · have hk' := hk
        unfold keeps at hk' ⊢
        rw [if_neg (fun h => h5 (hly.k5.1 h)), if_pos (hly.k4.2 h4), if_neg h5, if_pos h4, hly.ts]
        rw [if_neg h5, if_pos h4] at hk'
        exact and_congr_left' ⟨fun _ => hk'.1, fun _ => T_top4 hm hy hk hk'.1⟩
      · have hv : ver y := ⟨h4, h5⟩
        have hk' := (keeps_ver hv).1 hk
        rw [keeps_ver (hly.ver.2 hv), keeps_ver hv]
        have e1 := T_lone hm hy hk hv
        have e2 := T_first hm hy hk hv
        have e3 : ¬ isOut s clock (m.flatMap (keepD s clock mj low m)) (form m y) := fun h => hk'.2.1 (T_out hm hy hk h)
        have e4 := T_above hm hy hk
        by_cases hl : lone m y
        · rw [if_pos hl, if_pos (e1.2 hl)]
          exact ⟨fun h => ⟨hk'.1, hk'.2.1, h.2.2⟩, fun h => ⟨e2, e3, h.2.2⟩⟩
        · have h7 := hk'.2.2
          rw [if_neg hl] at h7
          rw [if_neg hl, if_neg (fun h => hl (e1.1 h)), hly.fam]
          exact ⟨fun _ => ⟨hk'.1, hk'.2.1, h7⟩, fun _ => ⟨e2, e3, by omega⟩⟩
  unfold keepD at *
  by_cases h : keeps s clock mj' low m y
  · rw [if_pos h, if_pos (key.2 h)]
    have := T_form hm hy hk
    unfold keepD at this
    rw [this]
  · rw [if_neg h, if_neg (fun h' => h (key.1 h'))]
end
theorem again (hm : InOrder m) (hle : mj = true → mj' = true) : (m.flatMap (keepD s clock mj low m)).flatMap (keepD s clock mj' low (m.flatMap (keepD s clock mj low m))) = m.flatMap (keepD s clock mj' low m) := by
  rw [List.flatMap_assoc]
  have : ∀ (l : List Ent), (∀ e ∈ l, e ∈ m) → (l.flatMap fun e => (keepD s clock mj low m e).flatMap (keepD s clock mj' low (m.flatMap (keepD s clock mj low m)))) = l.flatMap (keepD s clock mj' low m) := by
    intro l
    induction l with
    | nil => intro _; rfl
    | cons e l ih =>
      intro h
      rw [List.flatMap_cons, List.flatMap_cons, ih fun x hx => h x (by simp [hx])]
      congr 1
      by_cases hk : keeps s clock mj low m e
      · have h1 : keepD s clock mj low m e = [form m e] := by unfold keepD; rw [if_pos hk]
        conv => lhs; rw [h1]
        simp only [List.flatMap_cons, List.flatMap_nil, List.append_nil]
        exact keep_again hm (h e (by simp)) hk
      · have h1 : keepD s clock mj low m e = [] := by unfold keepD; rw [if_neg hk]
        have h2 : ¬ keeps s clock mj' low m e := fun hk' => hk (by
          unfold keeps at hk' ⊢
          by_cases h5 : e.kind = 5
          · rw [if_pos h5] at hk' ⊢; exact ⟨hk'.1, fun ⟨a, b⟩ => hk'.2 ⟨hle a, b⟩⟩
          · by_cases h4 : e.kind = 4
            · rw [if_neg h5, if_pos h4] at hk' ⊢; exact ⟨hk'.1, fun ⟨a, b⟩ => hk'.2 ⟨hle a, b⟩⟩
            · rw [if_neg h5, if_neg h4] at hk' ⊢
              refine ⟨hk'.1, hk'.2.1, ?_⟩
              have h7 := hk'.2.2
              by_cases hl : lone m e
              · rw [if_pos hl] at h7 ⊢; cases mj; rfl; have := hle rfl; rw [h7] at this; exact this.symm
              · rw [if_neg hl] at h7 ⊢; exact h7)
        have h3 : keepD s clock mj' low m e = [] := by unfold keepD; rw [if_neg h2]
        conv => lhs; rw [h1]
        rw [h3]; rfl
  exact this m fun e he => he
end
theorem strict_of : ∀ {l : List Ent}, Srt ltE l → (l.Pairwise fun a b => a.seq ≠ b.seq) → l.Pairwise fun a b => compE a b < 0
  | [], _, _ => List.Pairwise.nil
  | a :: l, h, h' => by
    obtain ⟨h1, h2⟩ := List.pairwise_cons.1 h
    obtain ⟨h3, h4⟩ := List.pairwise_cons.1 h'
    refine List.pairwise_cons.2 ⟨fun b hb => ?_, strict_of h2 h4⟩
    have h5 := h1 b hb
    simp only [ltE, decide_eq_false_iff_not, Int.not_lt] at h5
    have h6 := cok_comp.pos h5
    rcases Int.lt_or_eq_of_le h6 with h7 | h7
    · exact h7
    · exact absurd (comp_zero_seq h7) (h3 b hb)
theorem ddE_seq : ∀ (l acc m : List Ent), ddE acc l = some m → (acc.Pairwise fun a b => a.seq ≠ b.seq) → m.Pairwise fun a b => a.seq ≠ b.seq := by
  intro l
  induction l with
  | nil => intro acc m h ha; simp only [ddE, Option.some.injEq] at h; subst h; exact ha
  | cons e l ih =>
    intro acc m h ha
    rw [ddE] at h
    split at h
    · split at h
      · exact ih _ _ h ha
      · simp at h
    · rename_i hn
      refine ih _ _ h (List.pairwise_append.2 ⟨ha, by simp, fun x hx y hy => ?_⟩)
      have : y = e := by simpa using hy
      subst this
      exact seqOf_none hn x hx
theorem ddE_mem : ∀ (l acc m : List Ent), ddE acc l = some m → ∀ x, x ∈ m ↔ (x ∈ acc ∨ x ∈ l) := by
  intro l
  induction l with
  | nil => intro acc m h x; simp only [ddE, Option.some.injEq] at h; subst h; simp
  | cons e l ih =>
    intro acc m h x
    rw [ddE] at h
    split at h
    · rename_i y hs
      split at h
      · rename_i he
        subst he
        rw [ih _ _ h x, List.mem_cons]
        have := (seqOf_some hs).1
        constructor
        · rintro (h | h)
          · exact .inl h
          · exact .inr (.inr h)
        · rintro (h | h | h)
          · exact .inl h
          · subst h; exact .inl this
          · exact .inr h
      · simp at h
    · rw [ih _ _ h x]
      simp only [List.mem_append, List.mem_cons, List.not_mem_nil, or_false]
      rw [or_assoc]
end Go.Rt
namespace Go.Rt
open Go Go.Sx Classical
section
variable (s : List Fml) (clock : Int) (m : List Ent)
end
end Go.Rt
namespace Go.Rt
open Go Go.Sx Classical
theorem order_ext : ∀ {l l' : List Ent}, (∀ x, x ∈ l ↔ x ∈ l') → (l.Pairwise fun a b => compE a b < 0) → (l'.Pairwise fun a b => compE a b < 0) → l = l'
  | [], [], _, _, _ => rfl
  | [], b :: l', h, _, _ => by have := (h b).2 (by simp); cases this
  | a :: l, [], h, _, _ => by have := (h a).1 (by simp); cases this
  | a :: l, b :: l', h, h1, h2 => by
    obtain ⟨a1, a2⟩ := List.pairwise_cons.1 h1
    obtain ⟨b1, b2⟩ := List.pairwise_cons.1 h2
    have hab : a = b := by
      have ha : a ∈ b :: l' := (h a).1 (by simp)
      have hb : b ∈ a :: l := (h b).2 (by simp)
      rcases List.mem_cons.1 ha with e | ha
      · exact e
      · rcases List.mem_cons.1 hb with e | hb
        · exact e.symm
        · exact absurd (a1 b hb) (comp_asym (b1 a ha))
    subst hab
    rw [order_ext (fun x => ?_) a2 b2]
    have hx := h x
    constructor
    · intro hl
      rcases List.mem_cons.1 (hx.1 (by simp [hl])) with e | h'
      · subst e; exact absurd (a1 x hl) (comp_irr x)
      · exact h'
    · intro hl
      rcases List.mem_cons.1 (hx.2 (by simp [hl])) with e | h'
      · subst e; exact absurd (b1 x hl) (comp_irr x)
      · exact h'
structure Behind (s : List Fml) (clock clock' : Int) (mj : Bool) (low : Int) (m b M N : List Ent) : Prop where
  om : InOrder m
  oM : InOrder M
  oN : InOrder N
  mM : ∀ x, x ∈ M ↔ x ∈ m ∨ x ∈ b
  mN : ∀ x, x ∈ N ↔ x ∈ m.flatMap (keepD s clock mj low m) ∨ x ∈ b
  hc : clock ≤ clock'
  ttl : ∀ e ∈ M, 0 ≤ (famAt s e.fam).ttl
  max : ∀ e ∈ M, 1 ≤ (famAt s e.fam).max
  kind : ∀ e ∈ M, 1 ≤ e.kind ∧ e.kind ≤ 5
  low : mj = true → ∀ e ∈ b, low < e.ts
  seq : mj = true → ∀ x ∈ m, ∀ e ∈ b, x.seq < e.seq
section
variable {s : List Fml} {clock clock' : Int} {mj : Bool} {low : Int} {m b M N : List Ent}
end
end Go.Rt
namespace Go.Rt
open Go Go.Sx Classical
def rMates (a b : Ent) : Bool := (a.fam == b.fam && a.row == b.row) && a.qual == b.qual
def rCntS (v : Ent) (k : Int) (x : Ent) : Int := if rMates x v = true then k + 1 else k
def rCnt (r : List Ent) (v : Ent) : Int := r.foldl (rCntS v) 0
section
variable {s : List Fml} {clock : Int} {m : List Ent} (hm : InOrder m) (hk : ∀ e ∈ m, 1 ≤ e.kind ∧ e.kind ≤ 5)
end
end Go.Rt
namespace Go.Rt
open Go Go.Sx Classical
structure RInv (n : Int) (p : List Ent) (st : SSt) : Prop where
  sub : ∀ r ∈ st.out, r ∈ p
  nil : p = [] → st.count = 0
  last : ∀ x, p.getLast? = some x → (0 < st.count → mates st.last x ∧ ver st.last) ∧ st.count = rCnt st.out x
end Go.Rt
namespace Go.Rt
open Go Go.Sx Classical
structure ZChk (e : Ent) : Prop where
  row : 1 ≤ (e.row.length : Int) ∧ (e.row.length : Int) ≤ 256
  fam : 0 ≤ e.fam ∧ e.fam ≤ 7
  q : badQ e = false
  ts : 1 ≤ e.ts ∧ e.ts ≤ 1099511627776
  seq : 0 ≤ e.seq ∧ e.seq ≤ 17592186044431
  kind : 1 ≤ e.kind ∧ e.kind ≤ 5
  v : badV e = false
structure ZReady (s : List Fml) (l m : List Ent) : Prop where
  ord : InOrder m
  chk : ∀ e ∈ m, ZChk e ∧ e.fam < s.length
  mem : ∀ e, e ∈ m ↔ e ∈ l
  bads : ∀ e ∈ l, checkedE s e = 0
  len : m.length ≤ l.length
theorem ZReady.kind {s : List Fml} {l m : List Ent} (h : ZReady s l m) : ∀ e ∈ m, 1 ≤ e.kind ∧ e.kind ≤ 5 := fun e he => (h.chk e he).1.kind
section
variable (s : List Fml) (clock : Int) (l : List Ent)
end
end Go.Rt
namespace Go.Proofs.Ytijhkfhflpmajaa
open Go Go.Sx Go.Rt Go.Proofs
theorem bads_zero {s : List Fml} : ∀ {l : List Ent}, (∀ e ∈ l, checkedE s e = 0) → badsE s l = 0
  | [], _ => rfl
  | e :: l, h => by rw [badsE, if_neg (by rw [h e (by simp)]; decide)]; exact bads_zero fun x hx => h x (by simp [hx])
theorem ddE_some : ∀ (l acc : List Ent), (∀ x ∈ acc ++ l, ∀ y ∈ acc ++ l, x.seq = y.seq → x = y) → ∃ d, ddE acc l = some d
  | [], acc, _ => ⟨acc, rfl⟩
  | e :: l, acc, h => by
    rw [ddE]
    cases hs : seqOf acc e.seq with
    | some x =>
      obtain ⟨h1, h2⟩ := seqOf_some hs
      have hxe : x = e := h x (by simp [h1]) e (by simp) h2
      show ∃ d, (if x = e then ddE acc l else none) = some d
      rw [if_pos hxe]
      exact ddE_some l acc fun a ha b hb => h a (by rcases List.mem_append.1 ha with g | g <;> simp [g]) b (by rcases List.mem_append.1 hb with g | g <;> simp [g])
    | none => exact ddE_some l (acc ++ [e]) fun a ha b hb => h a (by simpa using ha) b (by simpa using hb)
def clashB (I : List Ent) (e : Ent) : Bool := I.dropLast.any fun x => x.seq == e.seq && !sameE x e
structure TakeI (s : List Fml) (w : Wlk) (A I : List Ent) (last : Ent) (has : Bool) : Prop where
  mem : ∀ x, x ∈ I ↔ x ∈ A
  srt : A.Pairwise fun a b => compE a b < 0
  seq : A.Pairwise fun a b => a.seq ≠ b.seq
  chk : ∀ x ∈ A, checkedE s x = 0 ∧ x.fits
  has : has = w.any
  iff : w.any = true ↔ A ≠ []
  lstA : ∀ A' e, A = A' ++ [e] → w.last = e
  lstI : ∀ I' e, I = I' ++ [e] → w.last = e
  last : w.any = true → last = w.last
  len : A.length ≤ I.length
theorem TakeI.start {s : List Fml} {w : Wlk} (h : w.any = false) (last : Ent) : TakeI s w [] [] last false where
  mem := fun x => Iff.rfl
  srt := .nil
  seq := .nil
  chk := fun x hx => by cases hx
  has := h.symm
  iff := by rw [h]; simp
  lstA := fun A' e he => by simp at he
  lstI := fun A' e he => by simp at he
  last := fun h' => by rw [h] at h'; cases h'
  len := Nat.le_refl _
theorem TakeI.inj {s : List Fml} {w : Wlk} {A I : List Ent} {last : Ent} {has : Bool} (h : TakeI s w A I last has) : ∀ x ∈ A, ∀ y ∈ A, x.seq = y.seq → x = y := by
  have : ∀ {l : List Ent}, (l.Pairwise fun a b => a.seq ≠ b.seq) → ∀ x ∈ l, ∀ y ∈ l, x.seq = y.seq → x = y := by
    intro l
    induction l with
    | nil => intro _ x hx; cases hx
    | cons a l ih =>
      intro hp x hx y hy he
      obtain ⟨h1, h2⟩ := List.pairwise_cons.1 hp
      rcases List.mem_cons.1 hx with ex | hx <;> rcases List.mem_cons.1 hy with ey | hy
      · rw [ex, ey]
      · rw [ex] at he; exact absurd he (h1 y hy)
      · rw [ey] at he; exact absurd he.symm (h1 x hx)
      · exact ih h2 x hx y hy he
  exact this h.seq
theorem TakeI.prep {s : List Fml} {w : Wlk} {A I : List Ent} {last : Ent} {has : Bool} (h : TakeI s w A I last has) {clock : Int} {times : List Int} {k : Int} (hb : boundsE s clock times k = 0) : prepE s clock times k I = (A, 0) := by
  unfold prepE
  rw [if_neg (by rw [hb]; decide), if_neg (by rw [bads_zero fun e he => (h.chk e ((h.mem e).1 he)).1]; decide)]
  obtain ⟨d, hd⟩ := ddE_some I [] fun x hx y hy he => h.inj x ((h.mem x).1 (by simpa using hx)) y ((h.mem y).1 (by simpa using hy)) he
  unfold sortedE
  rw [hd]
  have hs := (stabL_perm d).symm.pairwise (ddE_seq I [] d hd List.Pairwise.nil) fun h => Ne.symm h
  show (stabL ltE d, (0 : Int)) = (A, 0)
  rw [order_ext (fun x => ?_) (strict_of (stabL_srt d) hs) h.srt]
  rw [stabL_mem, ddE_mem I [] d hd, ← h.mem]; simp
theorem mem_dropLast_or {I : List Ent} {x : Ent} (h : x ∈ I) : x ∈ I.dropLast ∨ ∃ I', I = I' ++ [x] := by
  rcases List.eq_nil_or_concat I with e | ⟨I', b, e⟩
  · rw [e] at h; cases h
  · rw [e, List.concat_eq_append] at h ⊢
    rw [List.dropLast_concat]
    rcases List.mem_append.1 h with h | h
    · exact .inl h
    · rw [List.mem_singleton.1 h]; exact .inr ⟨I', rfl⟩
theorem TakeI.next {s : List Fml} {w : Wlk} {A I : List Ent} {last : Ent} {has : Bool} (h : TakeI s w A I last has) {e : Ent} (hs : w.s = s) (hf : e.fits) (hcl : clashB I e = false) (hp : (pushR w e).1 = true) : TakeI s (nextW w e) (A ++ [e]) (I ++ [e]) e true := by
  have hchk : checkedE s e = 0 := by
    rw [← hs]
    apply Decidable.byContradiction
    intro hc
    unfold pushR at hp
    rw [if_pos hc] at hp; cases hp
  have hany : w.any = true → compE w.last e < 0 ∧ w.last.seq ≠ e.seq := by
    intro ha
    unfold pushR at hp
    rw [hs, if_neg (by rw [hchk]; decide), if_pos ha] at hp
    split at hp
    · cases hp
    · split at hp
      · cases hp
      · split at hp
        · cases hp
        · rename_i h1 h2 h3
          rw [not_or] at h3
          exact ⟨by omega, h3.2⟩
  have hlt : ∀ x ∈ A, compE x e < 0 := by
    intro x hx
    have ha := h.iff.2 (by rintro rfl; cases hx)
    rcases List.eq_nil_or_concat A with he | ⟨A', b, he⟩
    · rw [he] at hx; cases hx
    · rw [List.concat_eq_append] at he
      have hb := h.lstA A' b he
      have h1 := (hany ha).1
      rw [hb] at h1
      rw [he] at hx
      rcases List.mem_append.1 hx with hx | hx
      · have hp' := h.srt
        rw [he] at hp'
        have := (List.pairwise_append.1 hp').2.2 x hx b (by simp)
        exact cok_comp.lt_le this (Int.le_of_lt h1)
      · rw [List.mem_singleton.1 hx]; exact h1
  have hsq : ∀ x ∈ A, x.seq ≠ e.seq := by
    intro x hx he
    have ha := h.iff.2 (by rintro rfl; cases hx)
    rcases mem_dropLast_or ((h.mem x).2 hx) with hd | ⟨I', hI⟩
    · have := List.any_eq_false.1 hcl x hd
      have hxe : x = e := by
        cases hb : sameE x e with
        | true => simpa [sameE] using hb
        | false => simp [hb, he] at this
      have := hlt x hx
      rw [hxe] at this
      exact comp_irr e this
    · rw [← h.lstI I' x hI] at he
      exact (hany ha).2 he
  have hn := nextW_any w e
  exact {
    mem := fun x => by rw [List.mem_append, List.mem_append, h.mem]
    srt := List.pairwise_append.2 ⟨h.srt, List.pairwise_singleton _ _, fun a ha b hb => by rw [List.mem_singleton.1 hb]; exact hlt a ha⟩
    seq := List.pairwise_append.2 ⟨h.seq, List.pairwise_singleton _ _, fun a ha b hb => by rw [List.mem_singleton.1 hb]; exact hsq a ha⟩
    chk := fun x hx => by
      rcases List.mem_append.1 hx with hx | hx
      · exact h.chk x hx
      · rw [List.mem_singleton.1 hx]; exact ⟨hchk, hf⟩
    has := hn.1.symm
    iff := by rw [hn.1]; simp
    lstA := fun A' e' he => by rw [hn.2]; exact (List.cons.inj (List.append_inj' he rfl).2).1
    lstI := fun A' e' he => by rw [hn.2]; exact (List.cons.inj (List.append_inj' he rfl).2).1
    last := fun _ => hn.2.symm
    len := by have := h.len; simp; omega }
theorem TakeI.again {s : List Fml} {w : Wlk} {A I : List Ent} {last : Ent} {has : Bool} (h : TakeI s w A I last has) {e : Ent} (hp : pushR w e = (false, 0)) (hc : checkedE w.s e = 0) : TakeI s w A (I ++ [e]) e true ∧ w.any = true ∧ w.last = e := by
  have hq : w.any = true ∧ w.last = e := by
    unfold pushR at hp
    rw [if_neg (by rw [hc]; decide)] at hp
    split at hp
    · rename_i ha
      split at hp
      · cases hp
      · split at hp
        · rename_i h2; exact ⟨ha, h2.2⟩
        · split at hp <;> cases hp
    · cases hp
  obtain ⟨ha, hl⟩ := hq
  have hin : e ∈ A := by
    rcases List.eq_nil_or_concat A with he | ⟨A', b, he⟩
    · exact absurd he (h.iff.1 ha)
    · rw [List.concat_eq_append] at he
      have := h.lstA A' b he
      rw [he, ← hl, this]; simp
  exact ⟨{
    mem := fun x => by
      rw [List.mem_append, h.mem, List.mem_singleton]
      constructor
      · rintro (g | rfl)
        · exact g
        · exact hin
      · exact .inl
    srt := h.srt
    seq := h.seq
    chk := h.chk
    has := ha.symm
    iff := h.iff
    lstA := h.lstA
    lstI := fun A' e' he => by rw [hl]; exact (List.cons.inj (List.append_inj' he rfl).2).1
    last := fun _ => hl.symm
    len := by have := h.len; simp; omega }, ha, hl⟩
theorem pushT_true {P : Program} (T : Tk P) (w : Wlk) (st : T.σ) {e : Ent} (hp : (pushR w e).1 = true) : pushT T w st e = nextT T (preW w e) (preT T w st e) e := by unfold pushT; rw [hp]; rfl
theorem pre_true {P : Program} (T : Tk P) {w : Wlk} (st : T.σ) {e : Ent} (hn : rowNew w e = true) : preT T w st e = closeT T w st ∧ preW w e = closeW w := by unfold preT preW; rw [hn]; exact ⟨rfl, rfl⟩
theorem pushT_gen {P : Program} (T : Tk P) (w : Wlk) (st : T.σ) {e : Ent} (hr : rowOK w) (hp : (pushR w e).1 = true) : pushT T w st e = nextT T w st e := (pushT_true T w st hp).trans (pre_nextT hr).1
theorem pushT_row {P : Program} (T : Tk P) (w : Wlk) (st : T.σ) {e : Ent} (hn : rowNew w e = true) (hp : (pushR w e).1 = true) : pushT T w st e = nextT T (closeW w) (closeT T w st) e := by
  rw [pushT_true T w st hp, (pre_true T st hn).1, (pre_true T st hn).2]
def shF (s : List Fml) (es : List Ev) (st : SSt) : SSt := es.foldl (evT (shownG s) id fun st _ _ => st) st
theorem shF_app (s : List Fml) (a b : List Ev) (st : SSt) : shF s (a ++ b) st = shF s b (shF s a st) := List.foldl_append
theorem shownG_tn (s : List Fml) (st : SSt) (d : Dec) : (shownG s st d).t = st.t ∧ (shownG s st d).n = st.n := by
  unfold shownG
  repeat' split
  all_goals exact ⟨rfl, rfl⟩
theorem shF_tn (s : List Fml) : ∀ (l : List Ev) (st : SSt), (shF s l st).t = st.t ∧ (shF s l st).n = st.n := by
  intro l
  induction l with
  | nil => intro st; exact ⟨rfl, rfl⟩
  | cons v l ih =>
    intro st
    have h1 := ih (evT (shownG s) id (fun st _ _ => st) st v)
    have h2 : (evT (shownG s) id (fun st _ _ => st) st v).t = st.t ∧ (evT (shownG s) id (fun st _ _ => st) st v).n = st.n := by
      cases v with
      | o => exact ⟨rfl, rfl⟩
      | m e b => exact ⟨rfl, rfl⟩
      | g d => exact shownG_tn s st d
    exact ⟨h1.1.trans h2.1, h1.2.trans h2.2⟩
theorem shF_split (s : List Fml) (l : List Ev) (st : SSt) : shF s l st = (shF s l { st with out := [] }).pre st.out := shown_split s l st
theorem shF_out (s : List Fml) (l : List Ev) (st : SSt) : (shF s l st).out = st.out ++ (shF s l { st with out := [] }).out := by rw [shF_split]; rfl
theorem nextT_shF (kw kt ko lo : Nat) (h : KSep kw kt ko lo) (w : Wlk) (st : SSt) (e : Ent) : (nextT (shownTk kw kt ko lo h) w st e : SSt) = shF w.s (evN w e) st := nextT_ev (shownTk kw kt ko lo h) w st e
theorem closeT_shF (kw kt ko lo : Nat) (h : KSep kw kt ko lo) (w : Wlk) (st : SSt) : (closeT (shownTk kw kt ko lo h) w st : SSt) = shF w.s (closeV w) st := closeT_ev (shownTk kw kt ko lo h) w st
structure RI (s : List Fml) (clock t vn : Int) (i : Nat) (w : Wlk) (st : SSt) (A I O : List Ent) (es : List Ev) (last : Ent) (has : Bool) : Prop where
  wi : WI s clock w A es
  tk : TakeI s w A I last has
  seq : SEq (shF s es (sst0 t vn)) { st with out := O }
  out : st.out = []
  inv : sInv i st
  rk : WRk s i w
  sm : w.opn = true → smallE w.ge
theorem RI.tn {s : List Fml} {clock t vn : Int} {i : Nat} {w : Wlk} {st : SSt} {A I O : List Ent} {es : List Ev} {last : Ent} {has : Bool} (h : RI s clock t vn i w st A I O es last has) : st.t = t ∧ st.n = vn := by
  have h1 := shF_tn s es (sst0 t vn)
  exact ⟨h.seq.t.symm.trans h1.1, h.seq.n.symm.trans h1.2⟩
theorem SEq.more {s : List Fml} {es es' : List Ev} {t vn : Int} {st : SSt} {O : List Ent} (h : SEq (shF s es (sst0 t vn)) { st with out := O }) (h0 : st.out = []) (hc : 0 ≤ st.count) : SEq (shF s (es ++ es') (sst0 t vn)) { shF s es' st with out := O ++ (shF s es' st).out } := by
  have h1 := SEq.run s es' h (by show 0 ≤ (shF s es (sst0 t vn)).count; rw [h.count]; exact hc)
  rw [shF_app]
  have h2 : shF s es' { st with out := O } = (shF s es' st).pre O := by
    rw [shF_split]
    congr 2
    cases st; cases h0; rfl
  show SEq (shF s es' (shF s es (sst0 t vn))) _
  have h3 : SEq (shF s es' (shF s es (sst0 t vn))) (shF s es' { st with out := O }) := h1
  rw [h2] at h3
  exact h3
theorem RI.start {s : List Fml} {clock t vn : Int} : RI s clock t vn 0 (wlk0 s clock) (sst0 t vn) [] [] [] [] ⟨[], 0, [], 0, 0, 0, []⟩ false where
  wi := WI.start rfl rfl rfl rfl
  tk := TakeI.start rfl _
  seq := ⟨rfl, rfl, rfl, rfl, fun _ => rfl⟩
  out := rfl
  inv := sInv0 t vn
  rk := wrk0 s clock
  sm := fun h => by cases h
section
variable {s : List Fml} {clock t vn : Int} {i : Nat} {w : Wlk} {st : SSt} {A I O : List Ent} {es : List Ev} {last : Ent} {has : Bool} {kw kt ko lo : Nat} (hk : KSep kw kt ko lo)
theorem pushT_eq (h : RI s clock t vn i w st A I O es last has) (e : Ent) (hp : (pushR w e).1 = true) : pushW w e = nextW w e ∧ (pushT (shownTk kw kt ko lo hk) w st e : SSt) = shF s (evN w e) st := by
  have h1 := pre_nextT (T := shownTk kw kt ko lo hk) (st := st) (e := e) h.wi.row
  refine ⟨by unfold pushW; rw [hp, cond_true, pre_next h.wi.row], ?_⟩
  have h9 : (pushT (shownTk kw kt ko lo hk) w st e : SSt) = nextT (shownTk kw kt ko lo hk) w st e := pushT_gen (shownTk kw kt ko lo hk) w st h.wi.row hp
  have h8 := nextT_shF kw kt ko lo hk w st e
  rw [h.wi.sch] at h8
  exact Eq.trans (α := SSt) h9 h8
theorem RI.new (h : RI s clock t vn i w st A I O es last has) {e : Ent} (hf : e.fits) (hcl : clashB I e = false) (hp : (pushR w e).1 = true) :
    RI s clock t vn (i + 2) (pushW w e) { (pushT (shownTk kw kt ko lo hk) w st e : SSt) with out := [] } (A ++ [e]) (I ++ [e]) (O ++ (pushT (shownTk kw kt ko lo hk) w st e : SSt).out) (es ++ evN w e) e true ∧ ∀ x ∈ (pushT (shownTk kw kt ko lo hk) w st e : SSt).out, smallE x := by
  obtain ⟨q1, q2⟩ := pushT_eq hk h e hp
  have htk := h.tk.next h.wi.sch hf hcl hp
  have hce : checkedE s e = 0 := (htk.chk e (by simp)).1
  have hsm := small_of (checkedE_zero hce).1
  have hI := (shown_inv kw kt ko lo hk).next (w := w) (e := e) h.inv
  have hI2 : sInv (i + 2) (shF s (evN w e) st) := by rw [← h.wi.sch, ← nextT_shF kw kt ko lo hk]; exact hI
  rw [q1, q2]
  refine ⟨⟨h.wi.next e, htk, SEq.more h.seq h.out h.inv.1, rfl, ⟨hI2.1, hI2.2.1, Nat.zero_le _⟩, (h.rk.next (goodE_of hce) (by omega)).mono (by omega), nextW_S h.sm hsm⟩, ?_⟩
  exact shown_S s _ _ (evN_S h.sm hsm) (by rw [h.out]; intro e he; cases he)
theorem RI.again (h : RI s clock t vn i w st A I O es last has) {e : Ent} (hp : pushR w e = (false, 0)) (hc : checkedE s e = 0) :
    RI s clock t vn i w st A (I ++ [e]) O es e true ∧ w.last = e ∧ has = true := by
  obtain ⟨h1, h2, h3⟩ := h.tk.again hp (by rw [h.wi.sch]; exact hc)
  exact ⟨⟨h.wi, h1, h.seq, h.out, h.inv, h.rk, h.sm⟩, h3, by rw [h.tk.has]; exact h2⟩
theorem RI.read (h : RI s clock t vn i w st A I O es last has) (hb : boundsE s clock [t] vn = 0) : (readE s clock t vn I) = (O ++ (closeT (shownTk kw kt ko lo hk) w st : SSt).out, 0) := by
  unfold readE
  rw [h.tk.prep hb, if_neg (show ¬ (0 : Int) ≠ 0 by decide)]
  have h1 := (SEq.more (es' := closeV w) h.seq h.out h.inv.1).out
  have h2 : (shownOf s clock t vn A).out = (shF s (es ++ closeV w) (sst0 t vn)).out := by unfold shownOf; rw [h.wi.done]; rfl
  show ((shownOf s clock t vn A).out, (0 : Int)) = _
  rw [h2, h1, closeT_shF, h.wi.sch]
theorem RI.row (h : RI s clock t vn i w st A I O es last has) (hb : boundsE s clock [t] vn = 0) {e : Ent} (hp : (pushR w e).1 = true) (hh : has = true) (hr : last.row ≠ e.row) :
    ∃ o, O ++ (pushT (shownTk kw kt ko lo hk) w st e : SSt).out = (readE s clock t vn I).1 ++ o := by
  have ha : w.any = true := by rw [← h.tk.has]; exact hh
  have hl := h.tk.last ha
  have hn : rowNew w e = true := by unfold rowNew; rw [ha, cond_true, ← hl]; simpa using hr
  rw [h.read hk hb]
  have : ∃ o, (pushT (shownTk kw kt ko lo hk) w st e : SSt).out = (closeT (shownTk kw kt ko lo hk) w st : SSt).out ++ o := by
    have h9 : (pushT (shownTk kw kt ko lo hk) w st e : SSt) = nextT (shownTk kw kt ko lo hk) (closeW w) (closeT (shownTk kw kt ko lo hk) w st) e := pushT_row (shownTk kw kt ko lo hk) w st hn hp
    have h8 := nextT_shF kw kt ko lo hk (closeW w) (closeT (shownTk kw kt ko lo hk) w st) e
    exact ⟨_, (congrArg SSt.out (Eq.trans (α := SSt) h9 h8)).trans (shF_out _ _ _)⟩
  obtain ⟨o, ho⟩ := this
  exact ⟨o, by rw [ho, List.append_assoc]⟩
theorem RI.done (h : RI s clock t vn i w st A I O es last has) (hb : boundsE s clock [t] vn = 0) (l0 : Ent) :
    RI s clock t vn (i + 1) (freshW w) { (closeT (shownTk kw kt ko lo hk) w st : SSt) with out := [], count := 0 } [] [] [] [] l0 false ∧ ∀ x ∈ (closeT (shownTk kw kt ko lo hk) w st : SSt).out, smallE x := by
  have h1 := shF_tn s (closeV w) st
  have h2 := h.tn
  have hcl := closeW_any w
  refine ⟨⟨WI.start rfl (closeW_opn w) ((closeW_s w).trans h.wi.sch) (hcl.2.2.2.trans h.wi.clk), TakeI.start rfl _, ?_, rfl, ⟨Int.le_refl _, by show (0 : Int) ≤ _; omega, Nat.zero_le _⟩, ?_, fun ho => ?_⟩, ?_⟩
  · rw [closeT_shF, h.wi.sch]
    exact ⟨by show t = (shF s (closeV w) st).t; rw [h1.1, h2.1], by show vn = (shF s (closeV w) st).n; rw [h1.2, h2.2], rfl, rfl, fun h => absurd h (by show ¬ (0 : Int) < 0; decide)⟩
  · have := h.rk.close
    exact ⟨this.sch, fun ho => by have : (closeW w).opn = true := ho; (rw [closeW_opn] at this; cases this), this.lo, this.hi⟩
  · have : (closeW w).opn = true := ho
    rw [closeW_opn] at this; cases this
  · rw [closeT_shF]
    exact shown_S _ _ _ (closeV_S h.sm) (by rw [h.out]; intro e he; cases he)
theorem RI.mono (h : RI s clock t vn i w st A I O es last has) {j : Nat} (hj : i ≤ j) : RI s clock t vn j w st A I O es last has :=
  ⟨h.wi, h.tk, h.seq, h.out, ⟨h.inv.1, by have := h.inv.2.1; omega, by have := h.inv.2.2; omega⟩, h.rk.mono (by omega), h.sm⟩
end
end Go.Proofs.Ytijhkfhflpmajaa
namespace Go.Rt
open Go Go.Sx Classical
def evW (s : List Fml) (major : Bool) (low : Int) : Ev → Int
  | .g d => if d.masked = true then 2 else if d.expired = true then 3 else if d.nothing = true ∧ major = true then 5 else if d.nothing = true then 0 else if (famAt s d.e.fam).max < d.rank then 4 else 0
  | .o => 1
  | .m e b => if b = false ∨ major = true ∧ e.ts ≤ low then 5 else 0
def isW (j w : Int) : Int := if w = j then 1 else 0
structure Drp where
  o : Int
  m : Int
  x : Int
  a : Int
  k : Int
def Drp.add (d : Drp) (w : Int) : Drp := ⟨d.o + isW 1 w, d.m + isW 2 w, d.x + isW 3 w, d.a + isW 4 w, d.k + isW 5 w⟩
def KSt.drp (st : KSt) : Drp := ⟨st.older, st.masked, st.expired, st.above, st.marks⟩
def cntW (j : Int) (l : List Int) : Int := (l.map (isW j)).sum
theorem cntW_cons (j x : Int) (b : List Int) : cntW j (x :: b) = isW j x + cntW j b := by simp [cntW]
def Drp.adds (d : Drp) (l : List Int) : Drp := ⟨d.o + cntW 1 l, d.m + cntW 2 l, d.x + cntW 3 l, d.a + cntW 4 l, d.k + cntW 5 l⟩
theorem Drp.adds_nil (d : Drp) : d.adds [] = d := by cases d; simp [Drp.adds, cntW]
theorem Drp.adds_cons (d : Drp) (w : Int) (l : List Int) : d.adds (w :: l) = (d.add w).adds l := by simp only [Drp.adds, Drp.add, cntW_cons, Int.add_assoc]
theorem kept_step (s : List Fml) (st : KSt) (v : Ev) : (evT (keptG s) keptO keptM st v).drp = st.drp.add (evW s st.major st.low v) ∧ (evT (keptG s) keptO keptM st v).out = st.out ++ kOf s st.major st.low v ∧ (evT (keptG s) keptO keptM st v).major = st.major ∧ (evT (keptG s) keptO keptM st v).low = st.low := by
  cases v with
  | o => exact ⟨by simp [evT, keptO, KSt.drp, Drp.add, evW, isW], by simp [evT, keptO, kOf], rfl, rfl⟩
  | m e b =>
    show (keptM st e b).drp = _ ∧ (keptM st e b).out = _ ∧ _
    unfold keptM kOf evW
    by_cases h : b = false ∨ st.major = true ∧ e.ts ≤ st.low
    · simp [h, KSt.drp, Drp.add, isW, evT, keptM]
    · simp [h, KSt.drp, Drp.add, isW, evT, keptM]
  | g d =>
    show (keptG s st d).drp = _ ∧ (keptG s st d).out = _ ∧ (keptG s st d).major = _ ∧ (keptG s st d).low = _
    obtain ⟨h1, h2, h3⟩ := keptG_k s st d
    refine ⟨?_, h1, h2, h3⟩
    unfold keptG evW
    by_cases h1 : d.masked = true
    · simp [h1, KSt.drp, Drp.add, isW]
    by_cases h2 : d.expired = true
    · simp [h1, h2, KSt.drp, Drp.add, isW]
    by_cases h3 : d.nothing = true ∧ st.major = true
    · simp [h1, h2, h3, KSt.drp, Drp.add, isW]
    by_cases h4 : d.nothing = true
    · have h3' : st.major = false := by cases h : st.major; rfl; exact absurd ⟨h4, h⟩ h3
      simp [h1, h2, h4, h3', KSt.drp, Drp.add, isW]
    by_cases h5 : (famAt s d.e.fam).max < d.rank
    · simp [h1, h2, h4, h5, KSt.drp, Drp.add, isW]
    by_cases h6 : d.husk = true
    · simp [h1, h2, h4, h5, h6, KSt.drp, Drp.add, isW]
    · simp [h1, h2, h4, h5, h6, KSt.drp, Drp.add, isW]
def kF (s : List Fml) (l : List Ev) (st : KSt) : KSt := l.foldl (evT (keptG s) keptO keptM) st
theorem kF_all (s : List Fml) : ∀ (l : List Ev) (st : KSt), (kF s l st).drp = st.drp.adds (l.map (evW s st.major st.low)) ∧ (kF s l st).out = st.out ++ l.flatMap (kOf s st.major st.low) ∧ (kF s l st).major = st.major ∧ (kF s l st).low = st.low := by
  intro l
  induction l with
  | nil => intro st; exact ⟨by simp [kF, Drp.adds_nil], by simp [kF], rfl, rfl⟩
  | cons v l ih =>
    intro st
    obtain ⟨h1, h2, h3, h4⟩ := kept_step s st v
    obtain ⟨g1, g2, g3, g4⟩ := ih (evT (keptG s) keptO keptM st v)
    rw [h3, h4] at g1 g2
    refine ⟨?_, ?_, g3.trans h3, g4.trans h4⟩
    · show (kF s l _).drp = _
      rw [g1, h1, List.map_cons, Drp.adds_cons]
    · show (kF s l _).out = _
      rw [g2, h2, List.flatMap_cons, List.append_assoc]
theorem closeV_len (w : Wlk) : (closeV w).length = if w.opn = true then 1 else 0 := by unfold closeV; cases w.opn <;> rfl
theorem evN_len (w : Wlk) (e : Ent) : (evN w e).length + (if (nextW w e).opn = true then 1 else 0) = 1 + (if w.opn = true then 1 else 0) := by
  have h1 : (ev1 w e).length + (if (nx1 w e).opn = true then 1 else 0) = if w.opn = true then 1 else 0 := by
    unfold ev1 nx1
    cases hb : endsE w e with
    | false => simp
    | true =>
      have ho : w.opn = true := by
        unfold endsE at hb
        cases h : w.opn with
        | true => rfl
        | false => rw [h] at hb; cases hb
      have hc : (closeW w).opn = false := by unfold closeW; rw [if_neg (by rw [ho]; decide)]
      simp [closeV_len, ho, hc]
  have h2 : (nx2 (nx1 w e) e).opn = (nx1 w e).opn := by unfold nx2; cases newFam (nx1 w e) e <;> rfl
  have h3 : (nx3 (nx2 (nx1 w e) e) e).opn = (nx1 w e).opn := by unfold nx3; cases newCol (nx2 (nx1 w e) e) e <;> exact h2
  unfold evN nextW
  rw [List.length_append]
  generalize nx3 (nx2 (nx1 w e) e) e = u at *
  have h4 : (ev5 (nx4 u e) e).length + (if (nx5 (nx4 u e) e).opn = true then 1 else 0) = 1 + (if u.opn = true then 1 else 0) := by
    have ho : (nx4 u e).opn = u.opn := rfl
    unfold ev5 nx5
    by_cases h5 : e.kind = 5
    · simp [h5, ho]
    · by_cases h4 : e.kind = 4
      · simp [h5, h4, ho]
      · simp only [h5, h4, if_false]
        unfold verW
        cases hu : u.opn <;> simp [ho, hu]
  rw [h3] at h4
  omega
theorem evP_len : ∀ (l : List Ent) (w : Wlk), (evP l w).length = l.length + if w.opn = true then 1 else 0
  | [], w => by rw [evP, closeV_len]; simp
  | e :: l, w => by
    rw [evP, List.length_append, evP_len l, List.length_cons]
    have := evN_len w e
    omega
section
variable {s : List Fml} {clock : Int} {m : List Ent} (hm : InOrder m) (hk : ∀ e ∈ m, 1 ≤ e.kind ∧ e.kind ≤ 5)
end
def olds (d : Drp) (k : Int) : Drp := { d with o := d.o + k }
end Go.Rt
namespace Go.Proofs.Ytijhkfhflpmajaa
open Go Go.Sx Go.Rt Go.Proofs
structure PI (s : List Fml) (i : Nat) (w : Wlk) : Prop where
  sch : w.s = s
  row : rowOK w
  rk : WRk s i w
  sm : w.opn = true → smallE w.ge
theorem PI.start (s : List Fml) (clock : Int) : PI s 0 (wlk0 s clock) := ⟨rfl, fun h => (by cases h), wrk0 s clock, fun h => (by cases h)⟩
theorem PI.mono {s : List Fml} {i j : Nat} {w : Wlk} (h : PI s i w) (hj : i ≤ j) : PI s j w := ⟨h.sch, h.row, h.rk.mono (by omega), h.sm⟩
theorem push_good {w : Wlk} {e : Ent} (hp : (pushR w e).1 = true) : checkedE w.s e = 0 := by
  apply Decidable.byContradiction
  intro hc
  unfold pushR at hp
  rw [if_pos hc] at hp; cases hp
theorem PI.next {s : List Fml} {i : Nat} {w : Wlk} (h : PI s i w) {e : Ent} (hp : (pushR w e).1 = true) : PI s (i + 2) (pushW w e) ∧ pushW w e = nextW w e ∧ smallE e := by
  have hce := push_good hp
  rw [h.sch] at hce
  have hsm := small_of (checkedE_zero hce).1
  have hW : pushW w e = nextW w e := by unfold pushW; rw [hp, cond_true, pre_next h.row]
  rw [hW]
  exact ⟨⟨by rw [nextW_s]; exact h.sch, nextW_row w e, (h.rk.next (goodE_of hce) (by omega)).mono (by omega), nextW_S h.sm hsm⟩, rfl, hsm⟩
theorem PI.fresh {s : List Fml} {i : Nat} {w : Wlk} (h : PI s i w) : PI s (i + 1) (freshW w) := by
  have h1 := h.rk.close
  have ho : (freshW w).opn = false := closeW_opn w
  exact ⟨(closeW_s w).trans h.sch, fun h9 => (by rw [ho] at h9; cases h9), ⟨h1.sch, fun h9 => (by have : (closeW w).opn = true := h9; rw [closeW_opn] at this; cases this), h1.lo, h1.hi⟩, fun h9 => (by rw [ho] at h9; cases h9)⟩
theorem evN_two (w : Wlk) (e : Ent) : (evN w e).length ≤ 2 := by
  have := Go.Rt.evN_len w e
  split at this <;> split at this <;> omega
theorem closeV_one (w : Wlk) : (closeV w).length ≤ 1 := by unfold closeV; split <;> simp
theorem kOf_one (s : List Fml) (mj : Bool) (low : Int) (v : Ev) : (kOf s mj low v).length ≤ 1 := by
  cases v <;> simp only [kOf]
  all_goals (repeat' split)
  all_goals simp
theorem kF_len (s : List Fml) (l : List Ev) (st : KSt) : (kF s l st).out.length ≤ st.out.length + l.length := by
  rw [(kF_all s l st).2.1, List.length_append]
  have : ∀ l : List Ev, (l.flatMap (kOf s st.major st.low)).length ≤ l.length := by
    intro l
    induction l with
    | nil => simp
    | cons v l ih => rw [List.flatMap_cons, List.length_append, List.length_cons]; have := kOf_one s st.major st.low v; omega
  have := this l
  omega
theorem shF_len (s : List Fml) : ∀ (l : List Ev) (st : SSt), (shF s l st).out.length ≤ st.out.length + l.length := by
  intro l
  induction l with
  | nil => intro st; exact Nat.le_refl _
  | cons v l ih =>
    intro st
    have h3 := ih (evT (shownG s) id (fun st _ _ => st) st v)
    have h4 : (evT (shownG s) id (fun st _ _ => st) st v).out.length ≤ st.out.length + 1 := by
      cases v with
      | o => show st.out.length ≤ _; omega
      | m e b => show st.out.length ≤ _; omega
      | g d =>
        show (shownG s st d).out.length ≤ _
        unfold shownG
        repeat' split
        all_goals simp
    show (shF s l _).out.length ≤ _
    rw [List.length_cons]
    omega
def OutS (H' : Heap) (n n' : Nat) (ks ks' : List Nat) (a : AV) (es : List Ent) : Prop :=
  (a = .nilsl ∧ es = []) ∨ ∃ ko xs, a = .osl ko xs.length 0 xs.length ∧ xs.map (·.e) = es ∧ ko ∈ ks ∧ ko ∉ ks' ∧ H' ko = some (.arr xs.length 7 (xs.map lentAV)) ∧ MineL H' n n' xs ∧ (∀ k ∈ xs.flatMap LEnt.ks, k ∉ ks')
def NxtS (S : List Nat → Nat → Heap → Nat → Prop) (ks : List Nat) (j : Nat) (es : List Ent) (H : Heap) (n : Nat) (a : AV) (H' : Heap) (n' : Nat) : Prop :=
  n ≤ n' ∧ (∃ ks', S ks' (j + 1) H' n' ∧ (∀ k ∈ ks', k ∈ ks ∨ n ≤ k) ∧ OutS H' n n' ks ks' a es) ∧ ∀ k, k < n → k ∉ ks → H' k = H k
theorem nmono {i j : Nat} {st : KSt} (h : kInv i st) (hj : i ≤ j) : kInv j st := by
  obtain ⟨a, b, c, d, e, f⟩ := h
  exact ⟨a, b, c, d, e, by omega⟩
theorem nout {i : Nat} {st : KSt} (h : kInv i st) : kInv i { st with out := [] } := by
  obtain ⟨a, b, c, d, e, f⟩ := h
  refine ⟨a, b, c, d, e, ?_⟩
  show st.older + st.masked + st.expired + st.above + st.marks + ((0 : Nat) : Int) ≤ i
  omega
theorem nold {i : Nat} {st : KSt} (h : kInv i st) : kInv (i + 1) (keptO st) := by
  obtain ⟨a, b, c, d, e, f⟩ := h
  refine ⟨by show 0 ≤ st.older + 1; omega, b, c, d, e, ?_⟩
  show st.older + 1 + st.masked + st.expired + st.above + st.marks + (st.out.length : Int) ≤ ((i + 1 : Nat) : Int)
  omega
theorem ffr {kw kt ko lo : Nat} {h : KSep kw kt ko lo} {H H' : Heap} {n n' : Nat} {w : Wlk} {st : KSt} (ha : Ahead (keptTk kw kt ko lo h) H n w st) (h0 : st.out = []) (hn : n ≤ n') (h1 : H' kw = H kw) (h2 : H' kt = H kt) (h3 : H' ko = H ko) : ∃ h : KSep kw kt ko n', Ahead (keptTk kw kt ko n' h) H' n' w st := by
  obtain ⟨a1, a2, a3, a4, a5, xs, a6, a7, a8⟩ := ha
  have b1 : kw < n := a1
  have b2 : kt < n := a2 kt (.inl rfl)
  have b3 : ko < n := a2 ko (.inr rfl)
  have hxs : xs = [] := by rw [h0] at a6; exact List.map_eq_nil_iff.1 a6
  subst hxs
  exact ⟨⟨h.a, h.b, h.c, by omega, by omega, by omega⟩, ⟨by show kw < n'; omega, fun k hk => by rcases hk with rfl | rfl <;> omega, h1.trans a3, Nat.le_refl _, h2.trans a5, [], a6, h3.trans a7, MineL.nil _ _ _⟩⟩
def fPut (w : Wlk) (st : KSt) (e : Ent) : KSt := bif (pushR w e).1 then kF w.s (evN w e) st else keptO st
def fStp (p : Wlk × KSt) (e : Ent) : (Wlk × KSt) × List Ent := if (pushR p.1 e).2 ≠ 0 then (p, []) else ((pushW p.1 e, { fPut p.1 p.2 e with out := [] }), (fPut p.1 p.2 e).out)
def fFin (p : Wlk × KSt) : (Wlk × KSt) × List Ent := ((freshW p.1, { kF p.1.s (closeV p.1) p.2 with out := [] }), (kF p.1.s (closeV p.1) p.2).out)
def fOne (L : List Ent) (j : Nat) (p : Wlk × KSt) : (Wlk × KSt) × List Ent := if h : j < L.length then fStp p L[j] else fFin p
def fTr (p0 : Wlk × KSt) (L : List Ent) : Nat → (Wlk × KSt) × List Ent
  | 0 => (p0, [])
  | j + 1 => ((fOne L j (fTr p0 L j).1).1, (fTr p0 L j).2 ++ (fOne L j (fTr p0 L j).1).2)
structure KJ (s : List Fml) (i : Nat) (p : Wlk × KSt) : Prop where
  pi : PI s i p.1
  out : p.2.out = []
  inv : kInv i p.2
theorem KJ.mono {s : List Fml} {i j : Nat} {p : Wlk × KSt} (h : KJ s i p) (hj : i ≤ j) : KJ s j p := ⟨h.pi.mono hj, h.out, nmono h.inv hj⟩
theorem fpush_eq (kw kt ko lo : Nat) (hk : KSep kw kt ko lo) {w : Wlk} (st : KSt) {e : Ent} (hr : rowOK w) : pushF kw kt ko lo hk w st e = fPut w st e := by
  unfold fPut
  cases hp : (pushR w e).1 with
  | false => unfold pushF; rw [hp]; rfl
  | true =>
    have h9 : (pushT (keptTk kw kt ko lo hk) w st e : KSt) = nextT (keptTk kw kt ko lo hk) w st e := pushT_gen (keptTk kw kt ko lo hk) w st hr hp
    have h8 : (nextT (keptTk kw kt ko lo hk) w st e : KSt) = kF w.s (evN w e) st := nextT_ev (keptTk kw kt ko lo hk) w st e
    have h7 : pushF kw kt ko lo hk w st e = (pushT (keptTk kw kt ko lo hk) w st e : KSt) := by first | rfl | (unfold pushF; rw [hp]; rfl)
    exact Eq.trans (α := KSt) h7 (Eq.trans (α := KSt) h9 h8)
theorem KJ.push {s : List Fml} {i : Nat} {p : Wlk × KSt} (h : KJ s i p) (e : Ent) : KJ s (i + 2) (fStp p e).1 ∧ (fStp p e).2.length ≤ 2 ∧ ∀ x ∈ (fStp p e).2, smallE x := by
  unfold fStp
  by_cases h0 : (pushR p.1 e).2 ≠ 0
  · rw [if_pos h0]
    exact ⟨h.mono (by omega), Nat.zero_le _, fun x hx => by cases hx⟩
  · rw [if_neg h0]
    unfold fPut
    cases hp : (pushR p.1 e).1 with
    | true =>
      obtain ⟨g1, g2, g3⟩ := h.pi.next hp
      have hI := (kept_inv 0 1 2 3 (by refine ⟨?_, ?_, ?_, ?_, ?_, ?_⟩ <;> omega)).next (w := p.1) (e := e) h.inv
      have hI2 : kInv (i + 2) (kF p.1.s (evN p.1 e) p.2) := by
        have h8 : (nextT (keptTk 0 1 2 3 (by refine ⟨?_, ?_, ?_, ?_, ?_, ?_⟩ <;> omega)) p.1 p.2 e : KSt) = kF p.1.s (evN p.1 e) p.2 := nextT_ev (keptTk 0 1 2 3 _) p.1 p.2 e
        rw [← h8]; exact hI
      rw [cond_true]
      refine ⟨⟨g1, rfl, nout hI2⟩, ?_, ?_⟩
      · have h1 := kF_len p.1.s (evN p.1 e) p.2
        have h2 := evN_two p.1 e
        rw [h.out] at h1
        simp only [List.length_nil] at h1
        show (kF p.1.s (evN p.1 e) p.2).out.length ≤ 2
        omega
      · exact kept_S _ _ _ (evN_S h.pi.sm g3) (by rw [h.out]; intro x hx; cases hx)
    | false =>
      have hW : pushW p.1 e = p.1 := by unfold pushW; rw [hp]; rfl
      rw [hW, cond_false]
      have ho : (keptO p.2).out = [] := h.out
      refine ⟨⟨h.pi.mono (by omega), rfl, nmono (nout (nold h.inv)) (by omega)⟩, by rw [ho]; exact Nat.zero_le _, fun x hx => by rw [ho] at hx; cases hx⟩
theorem KJ.fin {s : List Fml} {i : Nat} {p : Wlk × KSt} (h : KJ s i p) : KJ s (i + 2) (fFin p).1 ∧ (fFin p).2.length ≤ 2 ∧ ∀ x ∈ (fFin p).2, smallE x := by
  unfold fFin
  have hI := (kept_inv 0 1 2 3 (by refine ⟨?_, ?_, ?_, ?_, ?_, ?_⟩ <;> omega)).close (w := p.1) h.inv
  have hI2 : kInv (i + 1) (kF p.1.s (closeV p.1) p.2) := by
    have h8 : (closeT (keptTk 0 1 2 3 (by refine ⟨?_, ?_, ?_, ?_, ?_, ?_⟩ <;> omega)) p.1 p.2 : KSt) = kF p.1.s (closeV p.1) p.2 := closeT_ev (keptTk 0 1 2 3 _) p.1 p.2
    rw [← h8]; exact hI
  refine ⟨⟨h.pi.fresh.mono (by omega), rfl, nmono (nout hI2) (by omega)⟩, ?_, ?_⟩
  · have h1 := kF_len p.1.s (closeV p.1) p.2
    have h2 := closeV_one p.1
    rw [h.out] at h1
    simp only [List.length_nil] at h1
    show (kF p.1.s (closeV p.1) p.2).out.length ≤ 2
    omega
  · exact kept_S _ _ _ (closeV_S h.pi.sm) (by rw [h.out]; intro x hx; cases hx)
theorem KJ.one {s : List Fml} {i : Nat} {p : Wlk × KSt} (h : KJ s i p) (L : List Ent) (j : Nat) : KJ s (i + 2) (fOne L j p).1 ∧ (fOne L j p).2.length ≤ 2 ∧ ∀ x ∈ (fOne L j p).2, smallE x := by
  unfold fOne
  split
  · exact h.push _
  · exact h.fin
theorem fTr_ok {s : List Fml} {p0 : Wlk × KSt} (h0 : KJ s 0 p0) (L : List Ent) : ∀ (j : Nat), KJ s (2 * j) (fTr p0 L j).1 ∧ (fTr p0 L j).2.length ≤ 2 * j ∧ (∀ x ∈ (fTr p0 L j).2, smallE x)
  | 0 => ⟨h0, Nat.zero_le _, fun x hx => by cases hx⟩
  | j + 1 => by
    obtain ⟨g1, g2, g3⟩ := fTr_ok h0 L j
    obtain ⟨k1, k2, k3⟩ := g1.one L j
    refine ⟨k1.mono (by omega), ?_, fun x hx => ?_⟩
    · show ((fTr p0 L j).2 ++ (fOne L j (fTr p0 L j).1).2).length ≤ _
      rw [List.length_append]; omega
    · rcases List.mem_append.1 hx with hx | hx
      · exact g3 x hx
      · exact k3 x hx
theorem KJ.oks {s : List Fml} {i : Nat} {p : Wlk × KSt} (h : KJ s i p) (ht : ∀ f ∈ s, 0 ≤ f.ttl ∧ f.ttl ≤ 1099511627776) (hi : i ≤ 1000000000) (kw kt ko lo : Nat) (hk : KSep kw kt ko lo) (e : Ent) :
    KSt.ok p.2 ∧ KSt.ok (preT (keptTk kw kt ko lo hk) p.1 p.2 e) ∧ KSt.ok (nt1 (keptTk kw kt ko lo hk) (preW p.1 e) (preT (keptTk kw kt ko lo hk) p.1 p.2 e) e) ∧ WOK p.1 ∧ WOK (preW p.1 e) := by
  have hI := kept_inv kw kt ko lo hk
  have h1 : kInv (i + 1) (preT (keptTk kw kt ko lo hk) p.1 p.2 e) := by
    unfold preT; cases rowNew p.1 e
    · exact hI.up _ _ h.inv
    · exact hI.close h.inv
  have h2 := hI.nt1 (w := preW p.1 e) (e := e) h1
  have h3 : WRk s (i + 1) (preW p.1 e) := by
    unfold preW; cases rowNew p.1 e
    · exact h.pi.rk.mono (by omega)
    · exact h.pi.rk.close
  exact ⟨hI.ok i _ (by omega) h.inv, hI.ok _ _ (by omega) h1, hI.ok _ _ (by omega) h2, h.pi.rk.wok (by omega) ht, h3.wok (by omega) ht⟩
def SF (p0 : Wlk × KSt) (L : List Ent) (kf : Nat) (ks : List Nat) (j : Nat) (H : Heap) (n : Nat) : Prop :=
  ∃ kw kt ko lo h, ks = [kf, kw, kt, ko] ∧ StrOK (keptTk kw kt ko lo h) H n kf (fTr p0 L j).1.1 (fTr p0 L j).1.2
theorem SF.lt {p0 : Wlk × KSt} {L : List Ent} {kf : Nat} {ks : List Nat} {j : Nat} {H : Heap} {n : Nat} (h : SF p0 L kf ks j H n) : ∀ k ∈ ks, k < n := by
  obtain ⟨kw, kt, ko, lo, hk, rfl, hs⟩ := h
  have h1 : kw < n := hs.ah.kw
  have h2 : kt < n := hs.ah.keys kt (.inl rfl)
  have h3 : ko < n := hs.ah.keys ko (.inr rfl)
  have h4 := hs.lt
  intro k hk
  simp only [List.mem_cons, List.not_mem_nil, or_false] at hk
  rcases hk with rfl | rfl | rfl | rfl <;> assumption
theorem SF.frame {s : List Fml} {p0 : Wlk × KSt} (h0 : KJ s 0 p0) {L : List Ent} {kf : Nat} {ks : List Nat} {j : Nat} {H H' : Heap} {n n' : Nat} (h : SF p0 L kf ks j H n) (hn : n ≤ n') (hr : ∀ k ∈ ks, H' k = H k) : SF p0 L kf ks j H' n' := by
  obtain ⟨kw, kt, ko, lo, hk, rfl, hs⟩ := h
  obtain ⟨hk2, ha2⟩ := ffr hs.ah (fTr_ok h0 L j).1.out hn (hr _ (by simp)) (hr _ (by simp)) (hr _ (by simp))
  exact ⟨kw, kt, ko, n', hk2, rfl, ha2, (hr _ (by simp)).trans hs.at', Nat.lt_of_lt_of_le hs.lt hn, hs.nw, hs.nk⟩
set_option maxHeartbeats 800000 in
theorem SF.push {s : List Fml} (ht : ∀ f ∈ s, 0 ≤ f.ttl ∧ f.ttl ≤ 1099511627776) {p0 : Wlk × KSt} (h0 : KJ s 0 p0) {L : List Ent} {kf : Nat} {ks : List Nat} {j : Nat} {H : Heap} {n : Nat} (h : SF p0 L kf ks j H n) (hj : j < L.length) (hjm : j ≤ 400000000) (hf : L[j].fits) :
    ACalls Try.prog 32 [.loc kf 0 0 0 [], entAV L[j]] H n fun res H' n' => ∃ a err, res = .val (.tup [a, .int .i64 err]) ∧ NxtS (SF p0 L kf) ks j (fOne L j (fTr p0 L j).1).2 H n a H' n' := by
  obtain ⟨kw, kt, ko, lo, hk, rfl, hs⟩ := SF.frame h0 h (Nat.le_refl _) fun _ _ => rfl
  have hJ := (fTr_ok h0 L j).1
  obtain ⟨hk, ha⟩ := ffr hs.ah hJ.out (Nat.le_refl _) rfl rfl rfl
  have hs : StrOK (keptTk kw kt ko n hk) H n kf (fTr p0 L j).1.1 (fTr p0 L j).1.2 := ⟨ha, hs.at', hs.lt, hs.nw, hs.nk⟩
  have hkfw : kf ≠ kw := hs.nw
  have hkft : kf ≠ kt := fun e => hs.nk (.inl e)
  have hkfo : kf ≠ ko := fun e => hs.nk (.inr e)
  have b1 : kw < n := ha.kw
  have b2 : kt < n := ha.keys kt (.inl rfl)
  have b3 : ko < n := ha.keys ko (.inr rfl)
  have b4 := hs.lt
  have hone : fOne L j (fTr p0 L j).1 = fStp (fTr p0 L j).1 L[j] := dif_pos hj
  have htr : (fTr p0 L (j + 1)).1 = (fStp (fTr p0 L j).1 L[j]).1 := by show (fOne L j (fTr p0 L j).1).1 = _; rw [hone]
  rw [hone]
  have hst : ∀ H n, SF p0 L kf [kf, kw, kt, ko] (j + 1) H n ↔ SF p0 L kf [kf, kw, kt, ko] (j + 1) H n := fun _ _ => Iff.rfl
  obtain ⟨o1, o2, o3, o4, o5⟩ := hJ.oks ht (by omega) kw kt ko n hk L[j]
  refine (f_PushE kw kt ko n hk (fTr p0 L j).1.1 (fTr p0 L j).1.2 L[j] kf H n hs hf o1 o2 o3 o4 o5).mono fun res H' n' ⟨p1, p2⟩ => ?_
  generalize hp : (fTr p0 L j).1 = p at *
  by_cases h00 : (pushR p.1 L[j]).2 = 0
  · obtain ⟨ko', lo', hk', xs, hr, hko', hlo', hxe, hxo, hxm, _, hn, hnin, hah, hfr⟩ := p2 h00
    have heq := fpush_eq kw kt ko n hk p.2 (e := L[j]) hJ.pi.row
    have hstp : fStp p L[j] = ((pushW p.1 L[j], { fPut p.1 p.2 L[j] with out := [] }), (fPut p.1 p.2 L[j]).out) := if_neg (by rw [h00]; decide)
    rw [heq] at hxe hah
    refine ⟨_, _, hr, hn, ⟨[kf, kw, kt, ko'], ⟨kw, kt, ko', lo', hk', rfl, ?_⟩, fun k hk9 => ?_, .inr ⟨ko, xs, rfl, ?_, by simp, ?_, hxo, hxm, fun k hk9 => ?_⟩⟩, fun k h1 h2 => ?_⟩
    · rw [htr, hstp]
      refine ⟨hah, ?_, by omega, hkfw, fun h9 => by rcases h9 with h9 | h9; exact hkft h9; omega⟩
      rw [hfr kf b4 hkfw hkft hkfo]; exact hs.at'
    · simp only [List.mem_cons, List.not_mem_nil, or_false] at hk9 ⊢
      rcases hk9 with e | e | e | e
      · exact .inl (.inl e)
      · exact .inl (.inr (.inl e))
      · exact .inl (.inr (.inr (.inl e)))
      · exact .inr (by omega)
    · rw [hstp]; exact hxe
    · simp only [List.mem_cons, List.not_mem_nil, or_false]
      have e1 : ko ≠ kw := Ne.symm hk.b
      have e2 : ko ≠ kt := Ne.symm hk.c
      rintro (e | e | e | e)
      · exact hkfo e.symm
      · exact e1 e
      · exact e2 e
      · omega
    · have := hxm.in' hk9
      simp only [List.mem_cons, List.not_mem_nil, or_false]
      rintro (e | e | e | e)
      · omega
      · omega
      · omega
      · rw [e] at hk9; exact hnin hk9
    · simp only [List.mem_cons, List.not_mem_nil, or_false, not_or] at h2
      exact hfr k h1 h2.2.1 h2.2.2.1 h2.2.2.2
  · obtain ⟨hr, hL⟩ := p1 h00
    have hstp : fStp p L[j] = (p, []) := if_pos h00
    refine ⟨_, _, hr, hL.le, ⟨[kf, kw, kt, ko], ⟨kw, kt, ko, n, hk, rfl, ?_⟩, fun k hk9 => .inl hk9, .inl ⟨rfl, by rw [hstp]⟩⟩, fun k h1 h2 => ?_⟩
    · rw [htr, hstp]
      have hle := hL.le
      refine ⟨⟨by show kw < n'; omega, fun k hk9 => by rcases hk9 with rfl | rfl <;> omega, hL.walk, hL.tk⟩, ?_, by omega, hkfw, fun h9 => by rcases h9 with h9 | h9; exact hkft h9; exact hkfo h9⟩
      rw [hL.rest kf b4 hkfw (fun h9 => by rcases h9 with h9 | h9; exact hkft h9; exact hkfo h9)]; exact hs.at'
    · simp only [List.mem_cons, List.not_mem_nil, or_false, not_or] at h2
      exact hL.rest k h1 h2.2.1 (fun h9 => by rcases h9 with h9 | h9; exact h2.2.2.1 h9; exact h2.2.2.2 h9)
set_option maxHeartbeats 800000 in
theorem SF.fin {s : List Fml} (ht : ∀ f ∈ s, 0 ≤ f.ttl ∧ f.ttl ≤ 1099511627776) {p0 : Wlk × KSt} (h0 : KJ s 0 p0) {L : List Ent} {kf : Nat} {ks : List Nat} {j : Nat} {H : Heap} {n : Nat} (h : SF p0 L kf ks j H n) (hj : ¬ j < L.length) (hjm : j ≤ 400000000) :
    ACalls Try.prog 31 [.loc kf 0 0 0 []] H n fun res H' n' => ∃ a, res = .val a ∧ NxtS (SF p0 L kf) ks j (fOne L j (fTr p0 L j).1).2 H n a H' n' := by
  obtain ⟨kw, kt, ko, lo, hk, rfl, hs⟩ := SF.frame h0 h (Nat.le_refl _) fun _ _ => rfl
  have hJ := (fTr_ok h0 L j).1
  obtain ⟨hk, ha⟩ := ffr hs.ah hJ.out (Nat.le_refl _) rfl rfl rfl
  have hs : StrOK (keptTk kw kt ko n hk) H n kf (fTr p0 L j).1.1 (fTr p0 L j).1.2 := ⟨ha, hs.at', hs.lt, hs.nw, hs.nk⟩
  have hkfw : kf ≠ kw := hs.nw
  have hkft : kf ≠ kt := fun e => hs.nk (.inl e)
  have hkfo : kf ≠ ko := fun e => hs.nk (.inr e)
  have b1 : kw < n := ha.kw
  have b2 : kt < n := ha.keys kt (.inl rfl)
  have b3 : ko < n := ha.keys ko (.inr rfl)
  have b4 := hs.lt
  have hone : fOne L j (fTr p0 L j).1 = fFin (fTr p0 L j).1 := dif_neg hj
  have htr : (fTr p0 L (j + 1)).1 = (fFin (fTr p0 L j).1).1 := by show (fOne L j (fTr p0 L j).1).1 = _; rw [hone]
  rw [hone]
  obtain ⟨o1, _, _, o4, _⟩ := hJ.oks ht (by omega) kw kt ko n hk ⟨[], 0, [], 0, 0, 0, []⟩
  refine (f_End kw kt ko n hk (fTr p0 L j).1.1 (fTr p0 L j).1.2 kf H n hs o1 o4).mono fun res H' n' ⟨ko', lo', hk', xs, hr, hko', hlo', hxe, hxo, hxm, _, hn, hnin, hah, hfr⟩ => ?_
  generalize hp : (fTr p0 L j).1 = p at *
  have heq : (closeT (keptTk kw kt ko n hk) p.1 p.2 : KSt) = kF p.1.s (closeV p.1) p.2 := closeT_ev (keptTk kw kt ko n hk) p.1 p.2
  rw [heq] at hxe hah
  refine ⟨_, hr, hn, ⟨[kf, kw, kt, ko'], ⟨kw, kt, ko', lo', hk', rfl, ?_⟩, fun k hk9 => ?_, .inr ⟨ko, xs, rfl, ?_, by simp, ?_, hxo, hxm, fun k hk9 => ?_⟩⟩, fun k h1 h2 => ?_⟩
  · rw [htr]
    refine ⟨hah, ?_, by omega, hkfw, fun h9 => by rcases h9 with h9 | h9; exact hkft h9; omega⟩
    rw [hfr kf b4 hkfw hkft hkfo]; exact hs.at'
  · simp only [List.mem_cons, List.not_mem_nil, or_false] at hk9 ⊢
    rcases hk9 with e | e | e | e
    · exact .inl (.inl e)
    · exact .inl (.inr (.inl e))
    · exact .inl (.inr (.inr (.inl e)))
    · exact .inr (by omega)
  · exact hxe
  · simp only [List.mem_cons, List.not_mem_nil, or_false]
    have e1 : ko ≠ kw := Ne.symm hk.b
    have e2 : ko ≠ kt := Ne.symm hk.c
    rintro (e | e | e | e)
    · exact hkfo e.symm
    · exact e1 e
    · exact e2 e
    · omega
  · have := hxm.in' hk9
    simp only [List.mem_cons, List.not_mem_nil, or_false]
    rintro (e | e | e | e)
    · omega
    · omega
    · omega
    · rw [e] at hk9; exact hnin hk9
  · simp only [List.mem_cons, List.not_mem_nil, or_false, not_or] at h2
    exact hfr k h1 h2.2.1 h2.2.2.1 h2.2.2.2
theorem rfr {kw kt ko lo : Nat} {h : KSep kw kt ko lo} {H H' : Heap} {n n' : Nat} {w : Wlk} {st : SSt} (ha : Ahead (shownTk kw kt ko lo h) H n w st) (h0 : st.out = []) (hn : n ≤ n') (h1 : H' kw = H kw) (h2 : H' kt = H kt) (h3 : H' ko = H ko) : ∃ h : KSep kw kt ko n', Ahead (shownTk kw kt ko n' h) H' n' w st := by
  obtain ⟨a1, a2, a3, a4, a5, xs, a6, a7, a8⟩ := ha
  have b1 : kw < n := a1
  have b2 : kt < n := a2 kt (.inl rfl)
  have b3 : ko < n := a2 ko (.inr rfl)
  have hxs : xs = [] := by rw [h0] at a6; exact List.map_eq_nil_iff.1 a6
  subst hxs
  exact ⟨⟨h.a, h.b, h.c, by omega, by omega, by omega⟩, ⟨by show kw < n'; omega, fun k hk => by rcases hk with rfl | rfl <;> omega, h1.trans a3, Nat.le_refl _, h2.trans a5, [], a6, h3.trans a7, MineL.nil _ _ _⟩⟩
def rPut (w : Wlk) (st : SSt) (e : Ent) : SSt := bif (pushR w e).1 then shF w.s (evN w e) st else st
def rStp (p : Wlk × SSt) (e : Ent) : (Wlk × SSt) × List Ent := if (pushR p.1 e).2 ≠ 0 then (p, []) else ((pushW p.1 e, { rPut p.1 p.2 e with out := [] }), (rPut p.1 p.2 e).out)
def rFin (p : Wlk × SSt) : (Wlk × SSt) × List Ent := ((freshW p.1, { shF p.1.s (closeV p.1) p.2 with out := [], count := 0 }), (shF p.1.s (closeV p.1) p.2).out)
def rOne (L : List Ent) (j : Nat) (p : Wlk × SSt) : (Wlk × SSt) × List Ent := if h : j < L.length then rStp p L[j] else rFin p
def rTr (p0 : Wlk × SSt) (L : List Ent) : Nat → (Wlk × SSt) × List Ent
  | 0 => (p0, [])
  | j + 1 => ((rOne L j (rTr p0 L j).1).1, (rTr p0 L j).2 ++ (rOne L j (rTr p0 L j).1).2)
structure RJ (s : List Fml) (i : Nat) (p : Wlk × SSt) : Prop where
  pi : PI s i p.1
  out : p.2.out = []
  inv : sInv i p.2
theorem RJ.mono {s : List Fml} {i j : Nat} {p : Wlk × SSt} (h : RJ s i p) (hj : i ≤ j) : RJ s j p := ⟨h.pi.mono hj, h.out, ⟨h.inv.1, by have := h.inv.2.1; omega, by have := h.inv.2.2; omega⟩⟩
theorem rpush_eq (kw kt ko lo : Nat) (hk : KSep kw kt ko lo) {w : Wlk} (st : SSt) {e : Ent} (hr : rowOK w) : (pushT (shownTk kw kt ko lo hk) w st e : SSt) = rPut w st e := by
  unfold rPut
  cases hp : (pushR w e).1 with
  | false => unfold pushT; rw [hp]; rfl
  | true =>
    have h9 : (pushT (shownTk kw kt ko lo hk) w st e : SSt) = nextT (shownTk kw kt ko lo hk) w st e := pushT_gen (shownTk kw kt ko lo hk) w st hr hp
    have h8 : (nextT (shownTk kw kt ko lo hk) w st e : SSt) = shF w.s (evN w e) st := nextT_ev (shownTk kw kt ko lo hk) w st e
    have h7 : (pushT (shownTk kw kt ko lo hk) w st e : SSt) = (pushT (shownTk kw kt ko lo hk) w st e : SSt) := by first | rfl | (unfold pushT; rw [hp]; rfl)
    exact Eq.trans (α := SSt) h7 (Eq.trans (α := SSt) h9 h8)
theorem RJ.push {s : List Fml} {i : Nat} {p : Wlk × SSt} (h : RJ s i p) (e : Ent) : RJ s (i + 2) (rStp p e).1 ∧ (rStp p e).2.length ≤ 2 ∧ ∀ x ∈ (rStp p e).2, smallE x := by
  unfold rStp
  by_cases h0 : (pushR p.1 e).2 ≠ 0
  · rw [if_pos h0]
    exact ⟨h.mono (by omega), Nat.zero_le _, fun x hx => by cases hx⟩
  · rw [if_neg h0]
    unfold rPut
    cases hp : (pushR p.1 e).1 with
    | true =>
      obtain ⟨g1, g2, g3⟩ := h.pi.next hp
      have hI := (shown_inv 0 1 2 3 (by refine ⟨?_, ?_, ?_, ?_, ?_, ?_⟩ <;> omega)).next (w := p.1) (e := e) h.inv
      have hI2 : sInv (i + 2) (shF p.1.s (evN p.1 e) p.2) := by
        have h8 : (nextT (shownTk 0 1 2 3 (by refine ⟨?_, ?_, ?_, ?_, ?_, ?_⟩ <;> omega)) p.1 p.2 e : SSt) = shF p.1.s (evN p.1 e) p.2 := nextT_ev (shownTk 0 1 2 3 _) p.1 p.2 e
        rw [← h8]; exact hI
      rw [cond_true]
      refine ⟨⟨g1, rfl, ⟨hI2.1, hI2.2.1, Nat.zero_le _⟩⟩, ?_, ?_⟩
      · have h1 := shF_len p.1.s (evN p.1 e) p.2
        have h2 := evN_two p.1 e
        rw [h.out] at h1
        simp only [List.length_nil] at h1
        show (shF p.1.s (evN p.1 e) p.2).out.length ≤ 2
        omega
      · exact shown_S _ _ _ (evN_S h.pi.sm g3) (by rw [h.out]; intro x hx; cases hx)
    | false =>
      have hW : pushW p.1 e = p.1 := by unfold pushW; rw [hp]; rfl
      rw [hW, cond_false]
      have ho : (p.2).out = [] := h.out
      refine ⟨⟨h.pi.mono (by omega), rfl, ⟨h.inv.1, by have := h.inv.2.1; show p.2.count ≤ _; omega, Nat.zero_le _⟩⟩, by rw [ho]; exact Nat.zero_le _, fun x hx => by rw [ho] at hx; cases hx⟩
theorem RJ.fin {s : List Fml} {i : Nat} {p : Wlk × SSt} (h : RJ s i p) : RJ s (i + 2) (rFin p).1 ∧ (rFin p).2.length ≤ 2 ∧ ∀ x ∈ (rFin p).2, smallE x := by
  unfold rFin
  have hI := (shown_inv 0 1 2 3 (by refine ⟨?_, ?_, ?_, ?_, ?_, ?_⟩ <;> omega)).close (w := p.1) h.inv
  have hI2 : sInv (i + 1) (shF p.1.s (closeV p.1) p.2) := by
    have h8 : (closeT (shownTk 0 1 2 3 (by refine ⟨?_, ?_, ?_, ?_, ?_, ?_⟩ <;> omega)) p.1 p.2 : SSt) = shF p.1.s (closeV p.1) p.2 := closeT_ev (shownTk 0 1 2 3 _) p.1 p.2
    rw [← h8]; exact hI
  refine ⟨⟨h.pi.fresh.mono (by omega), rfl, ⟨Int.le_refl _, by show (0 : Int) ≤ _; omega, Nat.zero_le _⟩⟩, ?_, ?_⟩
  · have h1 := shF_len p.1.s (closeV p.1) p.2
    have h2 := closeV_one p.1
    rw [h.out] at h1
    simp only [List.length_nil] at h1
    show (shF p.1.s (closeV p.1) p.2).out.length ≤ 2
    omega
  · exact shown_S _ _ _ (closeV_S h.pi.sm) (by rw [h.out]; intro x hx; cases hx)
theorem RJ.one {s : List Fml} {i : Nat} {p : Wlk × SSt} (h : RJ s i p) (L : List Ent) (j : Nat) : RJ s (i + 2) (rOne L j p).1 ∧ (rOne L j p).2.length ≤ 2 ∧ ∀ x ∈ (rOne L j p).2, smallE x := by
  unfold rOne
  split
  · exact h.push _
  · exact h.fin
theorem rTr_ok {s : List Fml} {p0 : Wlk × SSt} (h0 : RJ s 0 p0) (L : List Ent) : ∀ (j : Nat), RJ s (2 * j) (rTr p0 L j).1 ∧ (rTr p0 L j).2.length ≤ 2 * j ∧ (∀ x ∈ (rTr p0 L j).2, smallE x)
  | 0 => ⟨h0, Nat.zero_le _, fun x hx => by cases hx⟩
  | j + 1 => by
    obtain ⟨g1, g2, g3⟩ := rTr_ok h0 L j
    obtain ⟨k1, k2, k3⟩ := g1.one L j
    refine ⟨k1.mono (by omega), ?_, fun x hx => ?_⟩
    · show ((rTr p0 L j).2 ++ (rOne L j (rTr p0 L j).1).2).length ≤ _
      rw [List.length_append]; omega
    · rcases List.mem_append.1 hx with hx | hx
      · exact g3 x hx
      · exact k3 x hx
theorem RJ.oks {s : List Fml} {i : Nat} {p : Wlk × SSt} (h : RJ s i p) (ht : ∀ f ∈ s, 0 ≤ f.ttl ∧ f.ttl ≤ 1099511627776) (hi : i ≤ 1000000000) (kw kt ko lo : Nat) (hk : KSep kw kt ko lo) (e : Ent) :
    SSt.ok p.2 ∧ SSt.ok (preT (shownTk kw kt ko lo hk) p.1 p.2 e) ∧ SSt.ok (nt1 (shownTk kw kt ko lo hk) (preW p.1 e) (preT (shownTk kw kt ko lo hk) p.1 p.2 e) e) ∧ WOK p.1 ∧ WOK (preW p.1 e) := by
  have hI := shown_inv kw kt ko lo hk
  have h1 : sInv (i + 1) (preT (shownTk kw kt ko lo hk) p.1 p.2 e) := by
    unfold preT; cases rowNew p.1 e
    · exact hI.up _ _ h.inv
    · exact hI.close h.inv
  have h2 := hI.nt1 (w := preW p.1 e) (e := e) h1
  have h3 : WRk s (i + 1) (preW p.1 e) := by
    unfold preW; cases rowNew p.1 e
    · exact h.pi.rk.mono (by omega)
    · exact h.pi.rk.close
  exact ⟨hI.ok i _ (by omega) h.inv, hI.ok _ _ (by omega) h1, hI.ok _ _ (by omega) h2, h.pi.rk.wok (by omega) ht, h3.wok (by omega) ht⟩
def SR (p0 : Wlk × SSt) (L : List Ent) (kf : Nat) (ks : List Nat) (j : Nat) (H : Heap) (n : Nat) : Prop :=
  ∃ kw kt ko lo h, ks = [kf, kw, kt, ko] ∧ StrOK (shownTk kw kt ko lo h) H n kf (rTr p0 L j).1.1 (rTr p0 L j).1.2
theorem SR.lt {p0 : Wlk × SSt} {L : List Ent} {kf : Nat} {ks : List Nat} {j : Nat} {H : Heap} {n : Nat} (h : SR p0 L kf ks j H n) : ∀ k ∈ ks, k < n := by
  obtain ⟨kw, kt, ko, lo, hk, rfl, hs⟩ := h
  have h1 : kw < n := hs.ah.kw
  have h2 : kt < n := hs.ah.keys kt (.inl rfl)
  have h3 : ko < n := hs.ah.keys ko (.inr rfl)
  have h4 := hs.lt
  intro k hk
  simp only [List.mem_cons, List.not_mem_nil, or_false] at hk
  rcases hk with rfl | rfl | rfl | rfl <;> assumption
theorem SR.frame {s : List Fml} {p0 : Wlk × SSt} (h0 : RJ s 0 p0) {L : List Ent} {kf : Nat} {ks : List Nat} {j : Nat} {H H' : Heap} {n n' : Nat} (h : SR p0 L kf ks j H n) (hn : n ≤ n') (hr : ∀ k ∈ ks, H' k = H k) : SR p0 L kf ks j H' n' := by
  obtain ⟨kw, kt, ko, lo, hk, rfl, hs⟩ := h
  obtain ⟨hk2, ha2⟩ := rfr hs.ah (rTr_ok h0 L j).1.out hn (hr _ (by simp)) (hr _ (by simp)) (hr _ (by simp))
  exact ⟨kw, kt, ko, n', hk2, rfl, ha2, (hr _ (by simp)).trans hs.at', Nat.lt_of_lt_of_le hs.lt hn, hs.nw, hs.nk⟩
set_option maxHeartbeats 800000 in
theorem SR.push {s : List Fml} (ht : ∀ f ∈ s, 0 ≤ f.ttl ∧ f.ttl ≤ 1099511627776) {p0 : Wlk × SSt} (h0 : RJ s 0 p0) {L : List Ent} {kf : Nat} {ks : List Nat} {j : Nat} {H : Heap} {n : Nat} (h : SR p0 L kf ks j H n) (hj : j < L.length) (hjm : j ≤ 400000000) (hf : L[j].fits) :
    ACalls Try.prog 35 [.loc kf 0 0 0 [], entAV L[j]] H n fun res H' n' => ∃ a err, res = .val (.tup [a, .int .i64 err]) ∧ NxtS (SR p0 L kf) ks j (rOne L j (rTr p0 L j).1).2 H n a H' n' := by
  obtain ⟨kw, kt, ko, lo, hk, rfl, hs⟩ := SR.frame h0 h (Nat.le_refl _) fun _ _ => rfl
  have hJ := (rTr_ok h0 L j).1
  obtain ⟨hk, ha⟩ := rfr hs.ah hJ.out (Nat.le_refl _) rfl rfl rfl
  have hs : StrOK (shownTk kw kt ko n hk) H n kf (rTr p0 L j).1.1 (rTr p0 L j).1.2 := ⟨ha, hs.at', hs.lt, hs.nw, hs.nk⟩
  have hkfw : kf ≠ kw := hs.nw
  have hkft : kf ≠ kt := fun e => hs.nk (.inl e)
  have hkfo : kf ≠ ko := fun e => hs.nk (.inr e)
  have b1 : kw < n := ha.kw
  have b2 : kt < n := ha.keys kt (.inl rfl)
  have b3 : ko < n := ha.keys ko (.inr rfl)
  have b4 := hs.lt
  have hone : rOne L j (rTr p0 L j).1 = rStp (rTr p0 L j).1 L[j] := dif_pos hj
  have htr : (rTr p0 L (j + 1)).1 = (rStp (rTr p0 L j).1 L[j]).1 := by show (rOne L j (rTr p0 L j).1).1 = _; rw [hone]
  rw [hone]
  have hst : ∀ H n, SR p0 L kf [kf, kw, kt, ko] (j + 1) H n ↔ SR p0 L kf [kf, kw, kt, ko] (j + 1) H n := fun _ _ => Iff.rfl
  obtain ⟨o1, o2, o3, o4, o5⟩ := hJ.oks ht (by omega) kw kt ko n hk L[j]
  refine (r_PushE kw kt ko n hk (rTr p0 L j).1.1 (rTr p0 L j).1.2 L[j] kf H n hs hf o1 o2 o3 o4 o5).mono fun res H' n' ⟨p1, p2⟩ => ?_
  generalize hp : (rTr p0 L j).1 = p at *
  by_cases h00 : (pushR p.1 L[j]).2 = 0
  · obtain ⟨ko', lo', hk', xs, hr, hko', hlo', hxe, hxo, hxm, _, hn, hnin, hah, hfr⟩ := p2 h00
    have heq := rpush_eq kw kt ko n hk p.2 (e := L[j]) hJ.pi.row
    have hstp : rStp p L[j] = ((pushW p.1 L[j], { rPut p.1 p.2 L[j] with out := [] }), (rPut p.1 p.2 L[j]).out) := if_neg (by rw [h00]; decide)
    rw [heq] at hxe hah
    refine ⟨_, _, hr, hn, ⟨[kf, kw, kt, ko'], ⟨kw, kt, ko', lo', hk', rfl, ?_⟩, fun k hk9 => ?_, .inr ⟨ko, xs, rfl, ?_, by simp, ?_, hxo, hxm, fun k hk9 => ?_⟩⟩, fun k h1 h2 => ?_⟩
    · rw [htr, hstp]
      refine ⟨hah, ?_, by omega, hkfw, fun h9 => by rcases h9 with h9 | h9; exact hkft h9; omega⟩
      rw [hfr kf b4 hkfw hkft hkfo]; exact hs.at'
    · simp only [List.mem_cons, List.not_mem_nil, or_false] at hk9 ⊢
      rcases hk9 with e | e | e | e
      · exact .inl (.inl e)
      · exact .inl (.inr (.inl e))
      · exact .inl (.inr (.inr (.inl e)))
      · exact .inr (by omega)
    · rw [hstp]; exact hxe
    · simp only [List.mem_cons, List.not_mem_nil, or_false]
      have e1 : ko ≠ kw := Ne.symm hk.b
      have e2 : ko ≠ kt := Ne.symm hk.c
      rintro (e | e | e | e)
      · exact hkfo e.symm
      · exact e1 e
      · exact e2 e
      · omega
    · have := hxm.in' hk9
      simp only [List.mem_cons, List.not_mem_nil, or_false]
      rintro (e | e | e | e)
      · omega
      · omega
      · omega
      · rw [e] at hk9; exact hnin hk9
    · simp only [List.mem_cons, List.not_mem_nil, or_false, not_or] at h2
      exact hfr k h1 h2.2.1 h2.2.2.1 h2.2.2.2
  · obtain ⟨hr, hL⟩ := p1 h00
    have hstp : rStp p L[j] = (p, []) := if_pos h00
    refine ⟨_, _, hr, hL.le, ⟨[kf, kw, kt, ko], ⟨kw, kt, ko, n, hk, rfl, ?_⟩, fun k hk9 => .inl hk9, .inl ⟨rfl, by rw [hstp]⟩⟩, fun k h1 h2 => ?_⟩
    · rw [htr, hstp]
      have hle := hL.le
      refine ⟨⟨by show kw < n'; omega, fun k hk9 => by rcases hk9 with rfl | rfl <;> omega, hL.walk, hL.tk⟩, ?_, by omega, hkfw, fun h9 => by rcases h9 with h9 | h9; exact hkft h9; exact hkfo h9⟩
      rw [hL.rest kf b4 hkfw (fun h9 => by rcases h9 with h9 | h9; exact hkft h9; exact hkfo h9)]; exact hs.at'
    · simp only [List.mem_cons, List.not_mem_nil, or_false, not_or] at h2
      exact hL.rest k h1 h2.2.1 (fun h9 => by rcases h9 with h9 | h9; exact h2.2.2.1 h9; exact h2.2.2.2 h9)
set_option maxHeartbeats 800000 in
theorem SR.fin {s : List Fml} (ht : ∀ f ∈ s, 0 ≤ f.ttl ∧ f.ttl ≤ 1099511627776) {p0 : Wlk × SSt} (h0 : RJ s 0 p0) {L : List Ent} {kf : Nat} {ks : List Nat} {j : Nat} {H : Heap} {n : Nat} (h : SR p0 L kf ks j H n) (hj : ¬ j < L.length) (hjm : j ≤ 400000000) :
    ACalls Try.prog 34 [.loc kf 0 0 0 []] H n fun res H' n' => ∃ a, res = .val a ∧ NxtS (SR p0 L kf) ks j (rOne L j (rTr p0 L j).1).2 H n a H' n' := by
  obtain ⟨kw, kt, ko, lo, hk, rfl, hs⟩ := SR.frame h0 h (Nat.le_refl _) fun _ _ => rfl
  have hJ := (rTr_ok h0 L j).1
  obtain ⟨hk, ha⟩ := rfr hs.ah hJ.out (Nat.le_refl _) rfl rfl rfl
  have hs : StrOK (shownTk kw kt ko n hk) H n kf (rTr p0 L j).1.1 (rTr p0 L j).1.2 := ⟨ha, hs.at', hs.lt, hs.nw, hs.nk⟩
  have hkfw : kf ≠ kw := hs.nw
  have hkft : kf ≠ kt := fun e => hs.nk (.inl e)
  have hkfo : kf ≠ ko := fun e => hs.nk (.inr e)
  have b1 : kw < n := ha.kw
  have b2 : kt < n := ha.keys kt (.inl rfl)
  have b3 : ko < n := ha.keys ko (.inr rfl)
  have b4 := hs.lt
  have hone : rOne L j (rTr p0 L j).1 = rFin (rTr p0 L j).1 := dif_neg hj
  have htr : (rTr p0 L (j + 1)).1 = (rFin (rTr p0 L j).1).1 := by show (rOne L j (rTr p0 L j).1).1 = _; rw [hone]
  rw [hone]
  obtain ⟨o1, _, _, o4, _⟩ := hJ.oks ht (by omega) kw kt ko n hk ⟨[], 0, [], 0, 0, 0, []⟩
  refine (r_End kw kt ko n hk (rTr p0 L j).1.1 (rTr p0 L j).1.2 kf H n hs o1 o4).mono fun res H' n' ⟨ko', lo', hk', xs, hr, hko', hlo', hxe, hxo, hxm, _, hn, hnin, hah, hfr⟩ => ?_
  generalize hp : (rTr p0 L j).1 = p at *
  have heq : (closeT (shownTk kw kt ko n hk) p.1 p.2 : SSt) = shF p.1.s (closeV p.1) p.2 := closeT_ev (shownTk kw kt ko n hk) p.1 p.2
  rw [heq] at hxe hah
  refine ⟨_, hr, hn, ⟨[kf, kw, kt, ko'], ⟨kw, kt, ko', lo', hk', rfl, ?_⟩, fun k hk9 => ?_, .inr ⟨ko, xs, rfl, ?_, by simp, ?_, hxo, hxm, fun k hk9 => ?_⟩⟩, fun k h1 h2 => ?_⟩
  · rw [htr]
    refine ⟨hah, ?_, by omega, hkfw, fun h9 => by rcases h9 with h9 | h9; exact hkft h9; omega⟩
    rw [hfr kf b4 hkfw hkft hkfo]; exact hs.at'
  · simp only [List.mem_cons, List.not_mem_nil, or_false] at hk9 ⊢
    rcases hk9 with e | e | e | e
    · exact .inl (.inl e)
    · exact .inl (.inr (.inl e))
    · exact .inl (.inr (.inr (.inl e)))
    · exact .inr (by omega)
  · exact hxe
  · simp only [List.mem_cons, List.not_mem_nil, or_false]
    have e1 : ko ≠ kw := Ne.symm hk.b
    have e2 : ko ≠ kt := Ne.symm hk.c
    rintro (e | e | e | e)
    · exact hkfo e.symm
    · exact e1 e
    · exact e2 e
    · omega
  · have := hxm.in' hk9
    simp only [List.mem_cons, List.not_mem_nil, or_false]
    rintro (e | e | e | e)
    · omega
    · omega
    · omega
    · rw [e] at hk9; exact hnin hk9
  · simp only [List.mem_cons, List.not_mem_nil, or_false, not_or] at h2
    exact hfr k h1 h2.2.1 h2.2.2.1 h2.2.2.2
end Go.Proofs.Ytijhkfhflpmajaa
namespace Go.Proofs.Ytijhkfhflpmajaa
open Go Go.Sx Go.Rt Go.Proofs
def SlotF (p0 : Wlk × KSt) (L : List Ent) (o : Option Nat) (ks : List Nat) (j : Nat) (O : List Ent) (H : Heap) (n : Nat) : Prop :=
  (o = none ∧ ks = [] ∧ O = []) ∨ ∃ kf, o = some kf ∧ SF p0 L kf ks j H n ∧ O = (fTr p0 L j).2
def SlotR (p0 : Wlk × SSt) (L : List Ent) (o : Option Nat) (ks : List Nat) (j : Nat) (O : List Ent) (H : Heap) (n : Nat) : Prop :=
  (o = none ∧ ks = [] ∧ O = []) ∨ ∃ kf, o = some kf ∧ SR p0 L kf ks j H n ∧ O = (rTr p0 L j).2
structure Beg (s : List Fml) (pF : Wlk × KSt) (pR : Wlk × SSt) : Prop where
  f : KJ s 0 pF
  r : RJ s 0 pR
def SS (pF : Wlk × KSt) (pR : Wlk × SSt) (L : List Ent) (c : Nat) : Option Nat → List Nat → Nat → List Ent → Heap → Nat → Prop := if c < 2 then SlotF pF L else SlotR pR L
section
variable {s : List Fml} {pF : Wlk × KSt} {pR : Wlk × SSt} (hB : Beg s pF pR) {L : List Ent}
theorem SS.lt {c : Nat} {o : Option Nat} {ks : List Nat} {j : Nat} {O : List Ent} {H : Heap} {n : Nat} (h : SS pF pR L c o ks j O H n) : ∀ k ∈ ks, k < n := by
  unfold SS at h
  split at h
  · rcases h with ⟨_, e, _⟩ | ⟨kf, _, h, _⟩
    · intro k hk; rw [e] at hk; cases hk
    · exact h.lt
  · rcases h with ⟨_, e, _⟩ | ⟨kf, _, h, _⟩
    · intro k hk; rw [e] at hk; cases hk
    · exact h.lt
include hB in
theorem SS.frame {c : Nat} {o : Option Nat} {ks : List Nat} {j : Nat} {O : List Ent} {H H' : Heap} {n n' : Nat} (h : SS pF pR L c o ks j O H n) (hn : n ≤ n') (hr : ∀ k ∈ ks, H' k = H k) : SS pF pR L c o ks j O H' n' := by
  unfold SS at h ⊢
  split at h
  · rename_i hc
    rw [if_pos hc]
    rcases h with h | ⟨kf, e, h, e2⟩
    · exact .inl h
    · exact .inr ⟨kf, e, SF.frame hB.f h hn hr, e2⟩
  · rename_i hc
    rw [if_neg hc]
    rcases h with h | ⟨kf, e, h, e2⟩
    · exact .inl h
    · exact .inr ⟨kf, e, SR.frame hB.r h hn hr, e2⟩
end
def upd {α : Type} (f : Nat → α) (c : Nat) (x : α) : Nat → α := fun d => if d = c then x else f d
theorem upd_same {α : Type} (f : Nat → α) (c : Nat) (x : α) : upd f c x c = x := if_pos rfl
theorem upd_ne {α : Type} (f : Nat → α) {c d : Nat} (x : α) (h : d ≠ c) : upd f c x d = f d := if_neg h
structure Core (pF : Wlk × KSt) (pR : Wlk × SSt) (L : List Ent) (kb kW M : Nat) (ws : List (List Ent)) (tg : Nat → Tg) (X : List Nat) (o : Nat → Option Nat) (ks : Nat → List Nat) (j : Nat → Nat) (O : Nat → List Ent) (H : Heap) (n : Nat) : Prop where
  kp : KpE kb kW M ws tg H n
  sl : ∀ c, c < 4 → SS pF pR L c (o c) (ks c) (j c) (O c) H n
  ap : ∀ c d, c < 4 → d < 4 → c ≠ d → ∀ k ∈ ks c, k ∉ ks d
  fr : ∀ c, c < 4 → ∀ k ∈ ks c, tg k = .free ∧ k ∉ X
  xf : ∀ k ∈ X, tg k = .free ∧ k < n
  wX : kW ∈ X
section
variable {s : List Fml} {pF : Wlk × KSt} {pR : Wlk × SSt} (hB : Beg s pF pR) {L : List Ent} {kb kW M : Nat} {ws : List (List Ent)} {tg : Nat → Tg} {X : List Nat} {o : Nat → Option Nat} {ks : Nat → List Nat} {j : Nat → Nat} {O : Nat → List Ent} {H : Heap} {n : Nat}
include hB in
theorem Core.step (h : Core pF pR L kb kW M ws tg X o ks j O H n) {c : Nat} (hc : c < 4) {ks2 : List Nat} {j2 : Nat} {O2 : List Ent} {H2 : Heap} {n2 : Nat} (hS : SS pF pR L c (o c) ks2 j2 O2 H2 n2) (hn : n ≤ n2) (hsub : ∀ k ∈ ks2, k ∈ ks c ∨ n ≤ k) (hfr : ∀ k, k < n → k ∉ ks c → H2 k = H k) :
    Core pF pR L kb kW M ws tg X o (upd ks c ks2) (upd j c j2) (upd O c O2) H2 n2 ∧ ∀ k ∈ X, H2 k = H k := by
  obtain ⟨l1, l2, l3, l4⟩ := h.kp.lt
  have hX : ∀ k ∈ X, H2 k = H k := fun k hk => hfr k (h.xf k hk).2 fun hin => (h.fr c hc k hin).2 hk
  refine ⟨⟨h.kp.frame hn (hX kW h.wX) fun k hk => hfr k (l2 k hk) fun hin => hk (h.fr c hc k hin).1, fun d hd => ?_, fun d e hd he hne k hk => ?_, fun d hd k hk => ?_, fun k hk => ⟨(h.xf k hk).1, Nat.lt_of_lt_of_le (h.xf k hk).2 hn⟩, h.wX⟩, hX⟩
  · by_cases e : d = c
    · subst e; rw [upd_same, upd_same, upd_same]; exact hS
    · rw [upd_ne _ _ e, upd_ne _ _ e, upd_ne _ _ e]
      exact SS.frame hB (h.sl d hd) hn fun k hk => hfr k (SS.lt (h.sl d hd) k hk) (h.ap d c hd hc e k hk)
  · by_cases e1 : d = c
    · have e2 : e ≠ c := fun h9 => hne (e1.trans h9.symm)
      rw [e1, upd_same] at hk
      rw [upd_ne _ _ e2]
      rcases hsub k hk with h9 | h9
      · exact h.ap c e hc he (Ne.symm e2) k h9
      · exact fun h8 => by have := SS.lt (h.sl e he) k h8; omega
    · rw [upd_ne _ _ e1] at hk
      by_cases e2 : e = c
      · rw [e2, upd_same]
        intro h8
        rcases hsub k h8 with h9 | h9
        · exact h.ap d c hd hc e1 k hk h9
        · have := SS.lt (h.sl d hd) k hk; omega
      · rw [upd_ne _ _ e2]; exact h.ap d e hd he hne k hk
  · by_cases e : d = c
    · rw [e, upd_same] at hk
      rcases hsub k hk with h9 | h9
      · exact h.fr c hc k h9
      · exact ⟨Classical.byContradiction fun hne => by have := l2 k hne; omega, fun h8 => by have := (h.xf k h8).2; omega⟩
    · rw [upd_ne _ _ e] at hk; exact h.fr d hd k hk
include hB in
theorem Core.keep (h : Core pF pR L kb kW M ws tg X o ks j O H n) {M' : Nat} {ws' : List (List Ent)} {tg' : Nat → Tg} {H' : Heap} {n' : Nat} (hn : n ≤ n') (hK : KpE kb kW M' ws' tg' H' n') (hfr : ∀ k, k < n → tg k = .free → k ≠ kW → H' k = H k) (htg : ∀ c, c < 4 → ∀ k ∈ ks c, tg' k = tg k) (htX : ∀ k ∈ X, tg' k = tg k) :
    Core pF pR L kb kW M' ws' tg' X o ks j O H' n' where
  kp := hK
  sl := fun c hc => SS.frame hB (h.sl c hc) hn fun k hk => hfr k (SS.lt (h.sl c hc) k hk) (h.fr c hc k hk).1 fun e => (h.fr c hc k hk).2 (by rw [e]; exact h.wX)
  ap := h.ap
  fr := fun c hc k hk => ⟨(htg c hc k hk).trans (h.fr c hc k hk).1, (h.fr c hc k hk).2⟩
  xf := fun k hk => ⟨(htX k hk).trans (h.xf k hk).1, Nat.lt_of_lt_of_le (h.xf k hk).2 hn⟩
  wX := h.wX
include hB in
theorem Core.beside (h : Core pF pR L kb kW M ws tg X o ks j O H n) {H' : Heap} {n' : Nat} (hn : n ≤ n') (hr : ∀ k, k < n → (k ∉ X ∨ k = kW) → H' k = H k) : Core pF pR L kb kW M ws tg X o ks j O H' n' where
  kp := h.kp.frame hn (hr kW (h.xf kW h.wX).2 (.inr rfl)) fun k hk => hr k (h.kp.lt.2.1 k hk) (.inl fun hin => hk (h.xf k hin).1)
  sl := fun c hc => SS.frame hB (h.sl c hc) hn fun k hk => hr k (SS.lt (h.sl c hc) k hk) (.inl (h.fr c hc k hk).2)
  ap := h.ap
  fr := h.fr
  xf := fun k hk => ⟨(h.xf k hk).1, Nat.lt_of_lt_of_le (h.xf k hk).2 hn⟩
  wX := h.wX
end
def Went (pF : Wlk × KSt) (pR : Wlk × SSt) (L : List Ent) (c : Nat) (o : Option Nat) (ks : List Nat) (j : Nat) (O : List Ent) (H : Heap) (n : Nat) (a : AV) (H' : Heap) (n' : Nat) : Prop :=
  n ≤ n' ∧ ∃ ks2 es, SS pF pR L c o ks2 (j + 1) (O ++ es) H' n' ∧ (∀ k ∈ ks2, k ∈ ks ∨ n ≤ k) ∧ (∀ k, k < n → k ∉ ks → H' k = H k) ∧ OutS H' n n' ks ks2 a es ∧ es.length ≤ 2 ∧ ∀ x ∈ es, smallE x
section
variable {s : List Fml} (ht : ∀ f ∈ s, 0 ≤ f.ttl ∧ f.ttl ≤ 1099511627776) {pF : Wlk × KSt} {pR : Wlk × SSt} (hB : Beg s pF pR) {L : List Ent} {c kf : Nat} {ks : List Nat} {j : Nat} {O : List Ent} {H : Heap} {n : Nat}
theorem ssF {c : Nat} (hc : c < 2) : SS pF pR L c = SlotF pF L := if_pos hc
theorem ssR {c : Nat} (hc : ¬ c < 2) : SS pF pR L c = SlotR pR L := if_neg hc
include ht hB in
theorem went_fpush (hc : c < 2) (h : SS pF pR L c (some kf) ks j O H n) (hj : j < L.length) (hjm : j ≤ 400000000) (hf : L[j].fits) :
    ACalls Try.prog 32 [.loc kf 0 0 0 [], entAV L[j]] H n fun res H' n' => ∃ a err, res = .val (.tup [a, .int .i64 err]) ∧ Went pF pR L c (some kf) ks j O H n a H' n' := by
  rw [ssF hc] at h
  rcases h with ⟨e, _⟩ | ⟨kf', e, h, hO⟩
  · cases e
  · cases e
    refine (SF.push ht hB.f h hj hjm hf).mono fun res H' n' ⟨a, err, h1, h2, ⟨ks2, h3, h4, h5⟩, h6⟩ => ⟨a, err, h1, h2, ks2, _, ?_, h4, h6, h5, ((fTr_ok hB.f L j).1.one L j).2.1, ((fTr_ok hB.f L j).1.one L j).2.2⟩
    rw [ssF hc]
    exact .inr ⟨kf, rfl, h3, by rw [hO]; rfl⟩
include ht hB in
theorem went_fend (hc : c < 2) (h : SS pF pR L c (some kf) ks j O H n) (hj : ¬ j < L.length) (hjm : j ≤ 400000000) :
    ACalls Try.prog 31 [.loc kf 0 0 0 []] H n fun res H' n' => ∃ a, res = .val a ∧ Went pF pR L c (some kf) ks j O H n a H' n' := by
  rw [ssF hc] at h
  rcases h with ⟨e, _⟩ | ⟨kf', e, h, hO⟩
  · cases e
  · cases e
    refine (SF.fin ht hB.f h hj hjm).mono fun res H' n' ⟨a, h1, h2, ⟨ks2, h3, h4, h5⟩, h6⟩ => ⟨a, h1, h2, ks2, _, ?_, h4, h6, h5, ((fTr_ok hB.f L j).1.one L j).2.1, ((fTr_ok hB.f L j).1.one L j).2.2⟩
    rw [ssF hc]
    exact .inr ⟨kf, rfl, h3, by rw [hO]; rfl⟩
include ht hB in
theorem went_rpush (hc : ¬ c < 2) (h : SS pF pR L c (some kf) ks j O H n) (hj : j < L.length) (hjm : j ≤ 400000000) (hf : L[j].fits) :
    ACalls Try.prog 35 [.loc kf 0 0 0 [], entAV L[j]] H n fun res H' n' => ∃ a err, res = .val (.tup [a, .int .i64 err]) ∧ Went pF pR L c (some kf) ks j O H n a H' n' := by
  rw [ssR hc] at h
  rcases h with ⟨e, _⟩ | ⟨kf', e, h, hO⟩
  · cases e
  · cases e
    refine (SR.push ht hB.r h hj hjm hf).mono fun res H' n' ⟨a, err, h1, h2, ⟨ks2, h3, h4, h5⟩, h6⟩ => ⟨a, err, h1, h2, ks2, _, ?_, h4, h6, h5, ((rTr_ok hB.r L j).1.one L j).2.1, ((rTr_ok hB.r L j).1.one L j).2.2⟩
    rw [ssR hc]
    exact .inr ⟨kf, rfl, h3, by rw [hO]; rfl⟩
include ht hB in
theorem went_rend (hc : ¬ c < 2) (h : SS pF pR L c (some kf) ks j O H n) (hj : ¬ j < L.length) (hjm : j ≤ 400000000) :
    ACalls Try.prog 34 [.loc kf 0 0 0 []] H n fun res H' n' => ∃ a, res = .val a ∧ Went pF pR L c (some kf) ks j O H n a H' n' := by
  rw [ssR hc] at h
  rcases h with ⟨e, _⟩ | ⟨kf', e, h, hO⟩
  · cases e
  · cases e
    refine (SR.fin ht hB.r h hj hjm).mono fun res H' n' ⟨a, h1, h2, ⟨ks2, h3, h4, h5⟩, h6⟩ => ⟨a, h1, h2, ks2, _, ?_, h4, h6, h5, ((rTr_ok hB.r L j).1.one L j).2.1, ((rTr_ok hB.r L j).1.one L j).2.2⟩
    rw [ssR hc]
    exact .inr ⟨kf, rfl, h3, by rw [hO]; rfl⟩
end
theorem SS.none {pF : Wlk × KSt} {pR : Wlk × SSt} {L : List Ent} {c : Nat} {ks : List Nat} {j : Nat} {O : List Ent} {H : Heap} {n : Nat} (h : SS pF pR L c none ks j O H n) (j2 : Nat) : ks = [] ∧ O = [] ∧ SS pF pR L c none ks j2 O H n := by
  unfold SS at h ⊢
  split at h
  · rename_i hc
    rcases h with ⟨_, e1, e2⟩ | ⟨kf, e, _⟩
    · exact ⟨e1, e2, by rw [if_pos hc]; exact .inl ⟨rfl, e1, e2⟩⟩
    · cases e
  · rename_i hc
    rcases h with ⟨_, e1, e2⟩ | ⟨kf, e, _⟩
    · exact ⟨e1, e2, by rw [if_neg hc]; exact .inl ⟨rfl, e1, e2⟩⟩
    · cases e
theorem Core.alike {pF : Wlk × KSt} {pR : Wlk × SSt} {L : List Ent} {kb kW M : Nat} {ws : List (List Ent)} {tg : Nat → Tg} {X : List Nat} {o : Nat → Option Nat} {ks : Nat → List Nat} {j : Nat → Nat} {O : Nat → List Ent} {H : Heap} {n : Nat} (h : Core pF pR L kb kW M ws tg X o ks j O H n) {c d : Nat} (hc : c < 4) (hd : d < 4) (hcd : (c < 2) = (d < 2)) (ho : (o c).isNone = (o d).isNone) (hj : j c = j d) : O c = O d := by
  have h1 := h.sl c hc
  have h2 := h.sl d hd
  unfold SS at h1 h2
  by_cases hc2 : c < 2
  · rw [if_pos hc2] at h1
    rw [if_pos (by rw [← hcd]; exact hc2)] at h2
    rcases h1 with ⟨e1, _, e2⟩ | ⟨kf, e1, _, e2⟩ <;> rcases h2 with ⟨e3, _, e4⟩ | ⟨kf2, e3, _, e4⟩
    · rw [e2, e4]
    · rw [e1, e3] at ho; cases ho
    · rw [e1, e3] at ho; cases ho
    · rw [e2, e4, hj]
  · rw [if_neg hc2] at h1
    rw [if_neg (by rw [← hcd]; exact hc2)] at h2
    rcases h1 with ⟨e1, _, e2⟩ | ⟨kf, e1, _, e2⟩ <;> rcases h2 with ⟨e3, _, e4⟩ | ⟨kf2, e3, _, e4⟩
    · rw [e2, e4]
    · rw [e1, e3] at ho; cases ho
    · rw [e1, e3] at ho; cases ho
    · rw [e2, e4, hj]
end Go.Proofs.Ytijhkfhflpmajaa