/- Own layer: a squash is never seen. No program in sight. -/
import Derived.Test.YtijhkfhflpmajaaGreatFC
set_option linter.unusedSimpArgs false
set_option linter.unusedVariables false
namespace Go.Rt
open Go Go.Sx Classical
theorem order_ext : ∀ {l l' : List Ent}, (∀ x, x ∈ l ↔ x ∈ l') → (l.Pairwise fun a b => compE a b < 0) → (l'.Pairwise fun a b => compE a b < 0) → l = l'
  | [], [], _, _, _ => rfl
  | [], b :: l', h, _, _ => by have := (h b).2 (by simp); cases this
  | a :: l, [], h, _, _ => by have := (h a).1 (by simp); cases this
  | a :: l, b :: l', h, h1, h2 => by
    obtain ⟨a1, a2⟩ := List.pairwise_cons.1 h1
    obtain ⟨b1, b2⟩ := List.pairwise_cons.1 h2
    have hab : a = b := by
      have ha : a ∈ b :: l' := (h a).1 (by simp)
      have hb : b ∈ a :: l := (h b).2 (by simp)
      rcases List.mem_cons.1 ha with e | ha
      · exact e
      · rcases List.mem_cons.1 hb with e | hb
        · exact e.symm
        · exact absurd (a1 b hb) (comp_asym (b1 a ha))
    subst hab
    rw [order_ext (fun x => ?_) a2 b2]
    have hx := h x
    constructor
    · intro hl
      rcases List.mem_cons.1 (hx.1 (by simp [hl])) with e | h'
      · subst e; exact absurd (a1 x hl) (comp_irr x)
      · exact h'
    · intro hl
      rcases List.mem_cons.1 (hx.2 (by simp [hl])) with e | h'
      · subst e; exact absurd (b1 x hl) (comp_irr x)
      · exact h'
structure Behind (s : List Fml) (clock clock' : Int) (mj : Bool) (low : Int) (m b M N : List Ent) : Prop where
  om : InOrder m
  oM : InOrder M
  oN : InOrder N
  mM : ∀ x, x ∈ M ↔ x ∈ m ∨ x ∈ b
  mN : ∀ x, x ∈ N ↔ x ∈ m.flatMap (keepD s clock mj low m) ∨ x ∈ b
  hc : clock ≤ clock'
  ttl : ∀ e ∈ M, 0 ≤ (famAt s e.fam).ttl
  max : ∀ e ∈ M, 1 ≤ (famAt s e.fam).max
  kind : ∀ e ∈ M, 1 ≤ e.kind ∧ e.kind ≤ 5
  low : mj = true → ∀ e ∈ b, low < e.ts
  seq : mj = true → ∀ x ∈ m, ∀ e ∈ b, x.seq < e.seq
section
variable {s : List Fml} {clock clock' : Int} {mj : Bool} {low : Int} {m b M N : List Ent}
end
end Go.Rt
namespace Go.Rt
open Go Go.Sx Classical
def rVer (e : Ent) : Bool := decide (e.kind ≤ 3)
def rMates (a b : Ent) : Bool := (a.fam == b.fam && a.row == b.row) && a.qual == b.qual
def rOver (x e : Ent) : Bool := ((x.kind == 5 && x.fam == e.fam) && x.row == e.row) || (x.kind == 4 && rMates x e)
def rMaskS (e : Ent) (m : Int) (x : Ent) : Int := if (rOver x e && decide (m < x.ts)) = true then x.ts else m
def rMask (l : List Ent) (e : Ent) : Int := l.foldl (rMaskS e) 0
def rIn1 (e x : Ent) : Bool := (rVer x && x.ts == e.ts) && rMates x e
def rGrpS (e : Ent) (p : Ent × Int) (x : Ent) : Ent × Int :=
  if rIn1 e x = true then (if p.1.seq < x.seq then x else p.1, if x.kind = 3 then p.2 else p.2 + 1) else p
def rGrp (l : List Ent) (e : Ent) : Ent × Int := l.foldl (rGrpS e) (e, 0)
def rKind (p : Ent × Int) : Int := if p.1.kind = 3 then (if 0 < p.2 then 2 else 0) else p.1.kind
def rGroup (l : List Ent) (e : Ent) : Int × Bool := (rKind (rGrp l e), (rGrp l e).1.seq == e.seq)
def rExp (s : List Fml) (clock : Int) (e : Ent) : Bool := decide (0 < (famAt s e.fam).ttl) && decide (e.ts + (famAt s e.fam).ttl ≤ clock)
def rIn (s : List Fml) (clock : Int) (l : List Ent) (e : Ent) : Bool := decide (rMask l e < e.ts) && !rExp s clock e
def rUp (e x : Ent) : Bool := (rVer x && decide (e.ts < x.ts)) && rMates x e
def rHere (s : List Fml) (clock : Int) (l : List Ent) (x : Ent) : Bool := ((rGroup l x).1 != 0 && (rGroup l x).2) && rIn s clock l x
def rRankS (s : List Fml) (clock : Int) (l : List Ent) (e : Ent) (n : Int) (x : Ent) : Int := if (rUp e x && rHere s clock l x) = true then n + 1 else n
def rRank (s : List Fml) (clock : Int) (l : List Ent) (e : Ent) : Int := l.foldl (rRankS s clock l e) 1
def rCntS (v : Ent) (k : Int) (x : Ent) : Int := if rMates x v = true then k + 1 else k
def rCnt (r : List Ent) (v : Ent) : Int := r.foldl (rCntS v) 0
def rAbv (e x : Ent) : Bool := (((x.kind == 5 && x.fam == e.fam) && x.row == e.row) || (x.kind == e.kind && rMates x e)) && (decide (e.ts < x.ts) || (x.ts == e.ts && (decide (e.kind < x.kind) || decide (e.seq < x.seq))))
def rFate (s : List Fml) (clock : Int) (major : Bool) (low : Int) (m : List Ent) (e : Ent) : Ent × Int :=
  if rVer e = false then (if m.any (rAbv e) = true then (e, 5) else if (major && decide (e.ts ≤ low)) = true then (e, 5) else (e, 0))
  else if (rGroup m e).2 = false then (e, 1)
  else if e.ts ≤ rMask m e then (e, 2)
  else if rExp s clock e = true then (e, 3)
  else if (rGroup m e).1 = 0 then (if major = true then (e, 5) else (e, 0))
  else if (famAt s e.fam).max < rRank s clock m e then (e, 4)
  else if (rGroup m e).1 = 2 then (hsk e, 0) else (e, 0)
def rSqS (s : List Fml) (clock : Int) (major : Bool) (low : Int) (m : List Ent) (r : List Ent) (e : Ent) : List Ent :=
  if (rFate s clock major low m e).2 = 0 then r ++ [(rFate s clock major low m e).1] else r
def rSquash (s : List Fml) (clock : Int) (major : Bool) (low : Int) (m : List Ent) : List Ent := m.foldl (rSqS s clock major low m) []
theorem rMates_iff (a b : Ent) : rMates a b = true ↔ mates a b := by
  simp only [rMates, Bool.and_eq_true, beq_iff_eq, mates, famOf]
theorem rOver_iff (x e : Ent) : rOver x e = true ↔ over x e := by
  simp only [rOver, Bool.or_eq_true, Bool.and_eq_true, beq_iff_eq, rMates_iff, over, famOf, and_assoc]
theorem rMask_fold (e : Ent) : ∀ (l : List Ent) (m : Int), m ≤ l.foldl (rMaskS e) m ∧ (∀ x ∈ l, over x e → x.ts ≤ l.foldl (rMaskS e) m) ∧ (l.foldl (rMaskS e) m = m ∨ ∃ x ∈ l, over x e ∧ l.foldl (rMaskS e) m = x.ts)
  | [], m => ⟨Int.le_refl _, fun x hx => by (cases hx), .inl rfl⟩
  | a :: l, m => by
    obtain ⟨h1, h2, h3⟩ := rMask_fold e l (rMaskS e m a)
    rw [List.foldl_cons]
    have h0 : m ≤ rMaskS e m a ∧ (over a e → a.ts ≤ rMaskS e m a) ∧ (rMaskS e m a = m ∨ over a e ∧ rMaskS e m a = a.ts) := by
      unfold rMaskS
      split
      · rename_i h
        simp only [Bool.and_eq_true, rOver_iff, decide_eq_true_eq] at h
        exact ⟨by omega, fun _ => by omega, .inr ⟨h.1, rfl⟩⟩
      · rename_i h
        simp only [Bool.and_eq_true, rOver_iff, decide_eq_true_eq] at h
        refine ⟨Int.le_refl _, fun ho => ?_, .inl rfl⟩
        have : ¬ m < a.ts := fun h' => h ⟨ho, h'⟩
        omega
    refine ⟨by omega, fun x hx ho => ?_, ?_⟩
    · rcases List.mem_cons.1 hx with rfl | hx
      · have := h0.2.1 ho; omega
      · exact h2 x hx ho
    · rcases h3 with h3 | ⟨x, hx, ho, h3⟩
      · rcases h0.2.2 with h4 | ⟨h4, h5⟩
        · left; omega
        · right; exact ⟨a, by simp, h4, by omega⟩
      · exact .inr ⟨x, by simp [hx], ho, h3⟩
theorem rMask_iff (m : List Ent) {e : Ent} (he : 1 ≤ e.ts) : e.ts ≤ rMask m e ↔ masked m e := by
  obtain ⟨_, h2, h3⟩ := rMask_fold e m 0
  constructor
  · intro h
    rcases h3 with h3 | ⟨x, hx, ho, h3⟩
    · unfold rMask at h; omega
    · exact ⟨x, hx, ho, by unfold rMask at h; omega⟩
  · rintro ⟨x, hx, ho, h⟩
    have := h2 x hx ho
    unfold rMask; omega
section
variable {s : List Fml} {clock : Int} {m : List Ent} (hm : InOrder m) (hk : ∀ e ∈ m, 1 ≤ e.kind ∧ e.kind ≤ 5)
theorem rVer_iff {e : Ent} (h : 1 ≤ e.kind ∧ e.kind ≤ 5) : rVer e = true ↔ ver e := by
  simp only [rVer, decide_eq_true_eq, ver]; omega
theorem rIn1_iff {e x : Ent} (hx : 1 ≤ x.kind ∧ x.kind ≤ 5) (he : ver e) : rIn1 e x = true ↔ grp x e := by
  simp only [rIn1, Bool.and_eq_true, beq_iff_eq, rMates_iff, rVer_iff hx, grp]
  exact ⟨fun ⟨⟨a, b⟩, c⟩ => ⟨a, he, c, b⟩, fun ⟨a, _, c, b⟩ => ⟨⟨a, b⟩, c⟩⟩
theorem rGrp_fold {e : Ent} (he : ver e) : ∀ (l : List Ent) (p : Ent × Int), (∀ x ∈ l, 1 ≤ x.kind ∧ x.kind ≤ 5) → 0 ≤ p.2 →
    ((l.foldl (rGrpS e) p).1 = p.1 ∨ ((l.foldl (rGrpS e) p).1 ∈ l ∧ grp (l.foldl (rGrpS e) p).1 e)) ∧ p.1.seq ≤ (l.foldl (rGrpS e) p).1.seq ∧ (∀ x ∈ l, grp x e → x.seq ≤ (l.foldl (rGrpS e) p).1.seq) ∧
    (0 < (l.foldl (rGrpS e) p).2 ↔ 0 < p.2 ∨ ∃ x ∈ l, grp x e ∧ x.kind ≠ 3) ∧ 0 ≤ (l.foldl (rGrpS e) p).2 ∧ (l.foldl (rGrpS e) p).2 ≤ p.2 + l.length
  | [], p, _, h0 => ⟨.inl rfl, Int.le_refl _, fun x hx => by (cases hx), by simp, h0, by simp⟩
  | a :: l, p, hl, h0 => by
    have ha := hl a (by simp)
    have hq0 : 0 ≤ (rGrpS e p a).2 := by unfold rGrpS; split; · simp only; split <;> omega
                                         · exact h0
    obtain ⟨h1, h2, h3, h4, h5, h6⟩ := rGrp_fold he l (rGrpS e p a) (fun x hx => hl x (by simp [hx])) hq0
    rw [List.foldl_cons]
    by_cases hg : grp a e
    · have hg' := (rIn1_iff ha he).2 hg
      have q1 : (rGrpS e p a).1 = (if p.1.seq < a.seq then a else p.1) := by unfold rGrpS; rw [if_pos hg']
      have q2 : (rGrpS e p a).2 = (if a.kind = 3 then p.2 else p.2 + 1) := by unfold rGrpS; rw [if_pos hg']
      have q3 : p.1.seq ≤ (rGrpS e p a).1.seq ∧ a.seq ≤ (rGrpS e p a).1.seq := by rw [q1]; split <;> constructor <;> omega
      refine ⟨?_, by omega, ?_, ?_, h5, ?_⟩
      · rcases h1 with h1 | ⟨h1, h1'⟩
        · rw [h1, q1]; split
          · exact .inr ⟨by simp, hg⟩
          · exact .inl rfl
        · exact .inr ⟨by simp [h1], h1'⟩
      · intro x hx hx'
        rcases List.mem_cons.1 hx with rfl | hx
        · omega
        · exact h3 x hx hx'
      · rw [h4, q2]
        constructor
        · rintro (h | ⟨x, hx, h⟩)
          · by_cases h3 : a.kind = 3
            · rw [if_pos h3] at h; exact .inl h
            · exact .inr ⟨a, by simp, hg, h3⟩
          · exact .inr ⟨x, by simp [hx], h⟩
        · rintro (h | ⟨x, hx, h, h'⟩)
          · left; split <;> omega
          · rcases List.mem_cons.1 hx with rfl | hx
            · left; rw [if_neg h']; omega
            · exact .inr ⟨x, hx, h, h'⟩
      · rw [q2] at h6; simp only [List.length_cons]; split at h6 <;> omega
    · have hg' : ¬ rIn1 e a = true := fun h => hg ((rIn1_iff ha he).1 h)
      have q : rGrpS e p a = p := by unfold rGrpS; rw [if_neg hg']
      rw [q] at h1 h2 h3 h4 h5 h6 ⊢
      refine ⟨h1.imp id fun ⟨h, h'⟩ => ⟨by simp [h], h'⟩, h2, ?_, ?_, h5, ?_⟩
      · intro x hx hx'
        rcases List.mem_cons.1 hx with rfl | hx
        · exact absurd hx' hg
        · exact h3 x hx hx'
      · rw [h4]
        refine or_congr Iff.rfl ⟨fun ⟨x, hx, h⟩ => ⟨x, by simp [hx], h⟩, fun ⟨x, hx, h, h'⟩ => ?_⟩
        rcases List.mem_cons.1 hx with rfl | hx
        · exact absurd h hg
        · exact ⟨x, hx, h, h'⟩
      · simp only [List.length_cons]; omega
include hm hk in
theorem rGroup_spec {e : Ent} (hmem : e ∈ m) (he : ver e) : ((rGroup m e).2 = true ↔ first m e) ∧ ((rGroup m e).1 = 0 ↔ lone m e) ∧ (first m e → (rGroup m e).1 = if e.kind = 3 then (if lone m e then 0 else 2) else e.kind) := by
  obtain ⟨h1, h2, h3, h4, h5, _⟩ := rGrp_fold he m (e, 0) hk (Int.le_refl _)
  change ((rGrp m e).1 = e ∨ _) at h1
  change _ ≤ (rGrp m e).1.seq at h2
  change ∀ x ∈ m, grp x e → x.seq ≤ (rGrp m e).1.seq at h3
  have hbm : (rGrp m e).1 ∈ m ∧ grp (rGrp m e).1 e := by
    rcases h1 with h1 | h1
    · rw [h1]; exact ⟨hmem, grp.refl he⟩
    · exact h1
  have h4' : 0 < (rGrp m e).2 ↔ ∃ x ∈ m, grp x e ∧ x.kind ≠ 3 := by
    have : 0 < (rGrp m e).2 ↔ (0 : Int) < 0 ∨ ∃ x ∈ m, grp x e ∧ x.kind ≠ 3 := h4
    rw [this]; simp
  have hlone : lone m e ↔ ¬ 0 < (rGrp m e).2 := by
    rw [h4']; unfold lone
    exact ⟨fun h ⟨x, hx, hg, h3⟩ => h3 (h x hx hg), fun h x hx hg => Classical.byContradiction fun h3 => h ⟨x, hx, hg, h3⟩⟩
  have hkb := hk _ hbm.1
  have hzero : (rGroup m e).1 = 0 ↔ lone m e := by
    unfold rGroup rKind
    simp only
    rw [hlone]
    by_cases h : (rGrp m e).1.kind = 3
    · rw [if_pos h]; split <;> simp_all
    · rw [if_neg h]
      have : 0 < (rGrp m e).2 := h4'.2 ⟨_, hbm.1, hbm.2, h⟩
      simp only [this, not_true_eq_false, iff_false]
      omega
  have hfirst : (rGroup m e).2 = true ↔ first m e := by
    unfold rGroup first
    simp only [beq_iff_eq]
    constructor
    · intro h
      exact ⟨he, fun x hx hg => by have := h3 x hx hg; omega⟩
    · rintro ⟨_, h⟩
      have := h _ hbm.1 hbm.2
      have : e.seq ≤ (rGrp m e).1.seq := h2
      omega
  refine ⟨hfirst, hzero, fun hf => ?_⟩
  have heq : (rGrp m e).1 = e := by
    have h6 : (rGrp m e).1.seq = e.seq := by have := hfirst.2 hf; unfold rGroup at this; simpa using this
    exact Classical.byContradiction fun hne => pairwise_ne hm.seq hbm.1 hmem hne h6
  unfold rGroup rKind
  simp only [heq]
  by_cases h : e.kind = 3
  · rw [if_pos h, if_pos h]
    by_cases hl : lone m e
    · rw [if_pos hl, if_neg (hlone.1 hl)]
    · rw [if_neg hl, if_pos (Classical.byContradiction fun h9 => hl (hlone.2 h9))]
  · rw [if_neg h, if_neg h]
theorem rExp_iff (e : Ent) : rExp s clock e = true ↔ expd s clock e := by
  simp only [rExp, Bool.and_eq_true, decide_eq_true_eq, expd]
theorem rIn_iff {e : Ent} (he : 1 ≤ e.ts) : rIn s clock m e = true ↔ ¬ isOut s clock m e := by
  simp only [rIn, Bool.and_eq_true, decide_eq_true_eq, Bool.not_eq_true', isOut, not_or]
  rw [← rMask_iff m he, ← rExp_iff (s := s) (clock := clock), Bool.not_eq_true]
  constructor
  · rintro ⟨a, b⟩; exact ⟨by omega, b⟩
  · rintro ⟨a, b⟩; exact ⟨by omega, b⟩
include hm hk in
theorem rHere_iff {e : Ent} (hmem : e ∈ m) (he : ver e) : rHere s clock m e = true ↔ counted s clock m e := by
  obtain ⟨h1, h2, _⟩ := rGroup_spec hm hk hmem he
  simp only [rHere, Bool.and_eq_true, bne_iff_ne, ne_eq, h2, h1, rIn_iff (hm.good e hmem).ts, counted]
  exact ⟨fun ⟨⟨a, b⟩, c⟩ => ⟨b, c, a⟩, fun ⟨b, c, a⟩ => ⟨⟨a, b⟩, c⟩⟩
include hm hk in
theorem rRank_eq (e : Ent) : rRank s clock m e = (above s clock m e : Int) + 1 := by
  have key : ∀ (l : List Ent) (n : Int), (∀ x ∈ l, x ∈ m) → l.foldl (rRankS s clock m e) n = n + ((l.filter fun x => decide (counted s clock m x ∧ mates x e ∧ e.ts < x.ts)).length : Nat) := by
    intro l
    induction l with
    | nil => intro n _; simp
    | cons a l ih =>
      intro n hl
      have ha := hl a (by simp)
      rw [List.foldl_cons, ih _ fun x hx => hl x (by simp [hx])]
      have hiff : (rUp e a && rHere s clock m a) = true ↔ counted s clock m a ∧ mates a e ∧ e.ts < a.ts := by
        simp only [rUp, Bool.and_eq_true, decide_eq_true_eq, rMates_iff, rVer_iff (hk a ha)]
        constructor
        · rintro ⟨⟨⟨h1, h2⟩, h3⟩, h4⟩; exact ⟨(rHere_iff hm hk ha h1).1 h4, h3, h2⟩
        · rintro ⟨h1, h2, h3⟩; have hv := h1.1.1; exact ⟨⟨⟨hv, h3⟩, h2⟩, (rHere_iff hm hk ha hv).2 h1⟩
      by_cases h : counted s clock m a ∧ mates a e ∧ e.ts < a.ts
      · rw [show rRankS s clock m e n a = n + 1 from if_pos (hiff.2 h), List.filter_cons, if_pos (by simpa using h), List.length_cons]
        omega
      · rw [show rRankS s clock m e n a = n from if_neg fun h9 => h (hiff.1 h9), List.filter_cons, if_neg (by simpa using h)]
  unfold rRank above
  rw [key m 1 fun x hx => hx]; omega
include hm hk in
theorem rFate_eq (mj : Bool) (low : Int) {e : Ent} (hmem : e ∈ m) : (if (rFate s clock mj low m e).2 = 0 then [(rFate s clock mj low m e).1] else []) = keepD s clock mj low m e := by
  have hke := hk e hmem
  have hts := (hm.good e hmem).ts
  by_cases hv : ver e
  · have hv' := (rVer_iff hke).2 hv
    obtain ⟨g1, g2, g3⟩ := rGroup_spec hm hk hmem hv
    have n5 : e.kind ≠ 5 := hv.2
    have n4 : e.kind ≠ 4 := hv.1
    unfold rFate keepD keeps
    rw [if_neg (show ¬ rVer e = false by simp [hv']), if_neg n5, if_neg n4]
    by_cases hf : first m e
    · rw [if_neg (show ¬ (rGroup m e).2 = false by rw [g1.2 hf]; decide)]
      have g3 := g3 hf
      by_cases hmk : masked m e
      · rw [if_pos (show e.ts ≤ rMask m e from (rMask_iff m hts).2 hmk)]
        rw [if_neg (by simp), if_neg fun h => h.2.1 (.inl hmk)]
      · rw [if_neg (show ¬ e.ts ≤ rMask m e from fun h => hmk ((rMask_iff m hts).1 h))]
        by_cases hx : expd s clock e
        · rw [if_pos ((rExp_iff e).2 hx)]
          rw [if_neg (by simp), if_neg fun h => h.2.1 (.inr hx)]
        · rw [if_neg (show ¬ rExp s clock e = true from fun h => hx ((rExp_iff e).1 h))]
          have hout : ¬ isOut s clock m e := fun h => h.elim hmk hx
          by_cases hl : lone m e
          · rw [if_pos (g2.2 hl)]
            have hform : form m e = e := by unfold form; rw [if_neg fun h => h.2.1 hl]
            cases mj with
            | true => simp [hl, hf, hout]
            | false => simp [hl, hf, hout, hform]
          · rw [if_neg fun h => hl (g2.1 h), rRank_eq hm hk]
            by_cases ha : (above s clock m e : Int) < (famAt s e.fam).max
            · rw [if_neg (show ¬ (famAt s e.fam).max < (above s clock m e : Int) + 1 by omega)]
              have hk2 : (rGroup m e).1 = 2 ↔ (e.kind = 2 ∨ e.kind = 3) := by
                rw [g3, if_neg hl]; split <;> omega
              have hyes : first m e ∧ ¬ isOut s clock m e ∧ (if lone m e then mj = false else (above s clock m e : Int) < (famAt s e.fam).max) := ⟨hf, hout, by rw [if_neg hl]; exact ha⟩
              rw [if_pos hyes]
              unfold form
              by_cases h2 : e.kind = 2 ∨ e.kind = 3
              · rw [if_pos (show (rGroup m e).1 = 2 from hk2.2 h2), if_pos (show ver e ∧ ¬ lone m e ∧ (e.kind = 2 ∨ e.kind = 3) from ⟨hv, hl, h2⟩)]; rfl
              · rw [if_neg (show ¬ (rGroup m e).1 = 2 from fun h => h2 (hk2.1 h)), if_neg (show ¬ (ver e ∧ ¬ lone m e ∧ (e.kind = 2 ∨ e.kind = 3)) from fun h => h2 h.2.2)]; rfl
            · rw [if_pos (show (famAt s e.fam).max < (above s clock m e : Int) + 1 by omega), if_neg (by simp), if_neg]
              rintro ⟨_, _, h⟩
              rw [if_neg hl] at h; exact ha h
    · rw [if_pos (show (rGroup m e).2 = false by rw [Bool.eq_false_iff]; exact fun h => hf (g1.1 h)), if_neg (by simp), if_neg fun h => hf h.1]
  · have hv' : rVer e = false := by rw [Bool.eq_false_iff]; exact fun h => hv ((rVer_iff hke).1 h)
    have hform : form m e = e := by unfold form; rw [if_neg fun h => hv h.1]
    unfold rFate keepD keeps
    rw [if_pos hv', hform]
    have h45 : e.kind = 4 ∨ e.kind = 5 := by unfold ver at hv; omega
    have habv : m.any (rAbv e) = true ↔ ¬ (if e.kind = 5 then top5 m e else top4 m e) := by
      rw [List.any_eq_true]
      rcases h45 with h4 | h5
      · rw [if_neg (by omega)]
        unfold top4
        constructor
        · rintro ⟨x, hx, h⟩ ⟨t1, t2⟩
          simp only [rAbv, Bool.or_eq_true, Bool.and_eq_true, beq_iff_eq, decide_eq_true_eq, rMates_iff] at h
          obtain ⟨h1, h2⟩ := h
          rcases h1 with ⟨⟨a, b⟩, c⟩ | ⟨a, b⟩
          · have := t2 x hx a ⟨b, c⟩; omega
          · have := t1 x hx (by omega) b; omega
        · intro h
          apply Classical.byContradiction
          intro hno
          apply h
          constructor
          · intro x hx hx4 hmx
            apply Classical.byContradiction
            intro h9
            apply hno
            refine ⟨x, hx, ?_⟩
            simp only [rAbv, Bool.or_eq_true, Bool.and_eq_true, beq_iff_eq, decide_eq_true_eq, rMates_iff]
            refine ⟨.inr ⟨by omega, hmx⟩, ?_⟩
            omega
          · intro x hx hx5 hfx
            apply Classical.byContradiction
            intro h9
            apply hno
            refine ⟨x, hx, ?_⟩
            simp only [rAbv, Bool.or_eq_true, Bool.and_eq_true, beq_iff_eq, decide_eq_true_eq, rMates_iff]
            refine ⟨.inl ⟨⟨hx5, hfx.1⟩, hfx.2⟩, ?_⟩
            omega
      · rw [if_pos h5]
        unfold top5
        constructor
        · rintro ⟨x, hx, h⟩ t1
          simp only [rAbv, Bool.or_eq_true, Bool.and_eq_true, beq_iff_eq, decide_eq_true_eq, rMates_iff] at h
          obtain ⟨h1, h2⟩ := h
          have hx' : x.kind = 5 ∧ famOf x e := by
            rcases h1 with ⟨⟨a, b⟩, c⟩ | ⟨a, b⟩
            · exact ⟨a, b, c⟩
            · exact ⟨by omega, b.1⟩
          have := t1 x hx hx'.1 hx'.2
          omega
        · intro h
          apply Classical.byContradiction
          intro hno
          apply h
          intro x hx hx5 hfx
          apply Classical.byContradiction
          intro h9
          apply hno
          refine ⟨x, hx, ?_⟩
          simp only [rAbv, Bool.or_eq_true, Bool.and_eq_true, beq_iff_eq, decide_eq_true_eq, rMates_iff]
          refine ⟨.inl ⟨⟨hx5, hfx.1⟩, hfx.2⟩, ?_⟩
          omega
    by_cases hA : m.any (rAbv e) = true
    · rw [if_pos hA, if_neg (by simp)]
      have := habv.1 hA
      rcases h45 with h4 | h5
      · rw [if_neg (show e.kind ≠ 5 by omega)] at this ⊢
        rw [if_pos h4, if_neg fun h => this h.1]
      · rw [if_pos h5] at this ⊢
        rw [if_neg fun h => this h.1]
    · have ht : (if e.kind = 5 then top5 m e else top4 m e) := Classical.byContradiction fun h => hA (habv.2 h)
      rw [if_neg hA]
      by_cases hl : mj = true ∧ e.ts ≤ low
      · rw [if_pos (show (mj && decide (e.ts ≤ low)) = true by simpa using hl), if_neg (by simp)]
        rcases h45 with h4 | h5
        · rw [if_neg (show e.kind ≠ 5 by omega), if_pos h4, if_neg fun h => h.2 hl]
        · rw [if_pos h5, if_neg fun h => h.2 hl]
      · rw [if_neg (show ¬ (mj && decide (e.ts ≤ low)) = true by simpa using hl), if_pos rfl]
        rcases h45 with h4 | h5
        · rw [if_neg (show e.kind ≠ 5 by omega)] at ht ⊢
          rw [if_pos h4, if_pos ⟨ht, hl⟩]
        · rw [if_pos h5] at ht ⊢
          rw [if_pos ⟨ht, hl⟩]
include hm hk in
theorem rSquash_eq (mj : Bool) (low : Int) : rSquash s clock mj low m = m.flatMap (keepD s clock mj low m) := by
  have h1 : ∀ (l r : List Ent), (∀ x ∈ l, x ∈ m) → l.foldl (rSqS s clock mj low m) r = r ++ l.flatMap (keepD s clock mj low m) := by
    intro l
    induction l with
    | nil => intro r _; simp
    | cons a l ih =>
      intro r hl
      rw [List.foldl_cons, ih _ fun x hx => hl x (by simp [hx]), List.flatMap_cons, ← rFate_eq hm hk mj low (hl a (by simp))]
      unfold rSqS
      split <;> simp
  unfold rSquash
  rw [h1 m [] fun x hx => hx, List.nil_append]
end
end Go.Rt
namespace Go.Rt
open Go Go.Sx Classical
structure RInv (n : Int) (p : List Ent) (st : SSt) : Prop where
  sub : ∀ r ∈ st.out, r ∈ p
  nil : p = [] → st.count = 0
  last : ∀ x, p.getLast? = some x → (0 < st.count → mates st.last x ∧ ver st.last) ∧ st.count = rCnt st.out x
def rAt (e : Ent) : List Ent → Nat
  | [] => 0
  | x :: m => if compE x e < 0 then rAt e m + 1 else 0
def rIns (m : List Ent) (e : Ent) : List Ent :=
  if rAt e m < m.length ∧ compE (m.getD (rAt e m) default) e = 0 then m else m.take (rAt e m) ++ (e :: m.drop (rAt e m))
def rOrd (l : List Ent) : List Ent := l.foldl rIns []
theorem rAt_le (e : Ent) : ∀ (m : List Ent), rAt e m ≤ m.length
  | [] => Nat.le_refl _
  | x :: m => by rw [rAt]; split <;> simp [rAt_le e m]
theorem rAt_lt (e : Ent) : ∀ (m : List Ent), ∀ x ∈ m.take (rAt e m), compE x e < 0
  | [] => by simp
  | x :: m => by
    rw [rAt]
    split
    · rename_i h
      intro y hy
      rw [List.take_succ_cons] at hy
      rcases List.mem_cons.1 hy with rfl | hy
      · exact h
      · exact rAt_lt e m y hy
    · simp
theorem rAt_ge (e : Ent) : ∀ (m : List Ent), (h : rAt e m < m.length) → 0 ≤ compE (m.getD (rAt e m) default) e
  | [], h => by simp at h
  | x :: m, h => by
    rw [rAt] at h ⊢
    split
    · rename_i hx
      rw [if_pos hx] at h
      simpa using rAt_ge e m (by simpa using h)
    · rename_i hx
      simp at hx ⊢; exact hx
theorem rIns_ok {m : List Ent} {e : Ent} (hp : m.Pairwise fun a b => compE a b < 0) (hz : ∀ x ∈ m, compE x e = 0 → x = e) :
    ((rIns m e).Pairwise fun a b => compE a b < 0) ∧ ∀ x, x ∈ rIns m e ↔ x ∈ m ∨ x = e := by
  have hle := rAt_le e m
  unfold rIns
  split
  · rename_i h
    have hmem : m.getD (rAt e m) default ∈ m := by simp [List.getD, List.getElem?_eq_getElem h.1]
    have := hz _ hmem h.2
    exact ⟨hp, fun x => ⟨.inl, fun h' => h'.elim id fun h' => by rw [h', ← this]; exact hmem⟩⟩
  · rename_i h
    have hsplit : m = m.take (rAt e m) ++ m.drop (rAt e m) := (List.take_append_drop _ _).symm
    have hp' := hp
    rw [hsplit, List.pairwise_append] at hp'
    have hdrop : ∀ y ∈ m.drop (rAt e m), compE e y < 0 := by
      rcases Nat.lt_or_ge (rAt e m) m.length with hlt | hge
      · have h0 := rAt_ge e m hlt
        have hne : compE (m.getD (rAt e m) default) e ≠ 0 := fun h9 => h ⟨hlt, h9⟩
        have hlt0 : compE e (m.getD (rAt e m) default) < 0 := (cok_comp.anti _ _).2 (by omega)
        rw [drop_cons m _ hlt] at hp' ⊢
        intro y hy
        rcases List.mem_cons.1 hy with rfl | hy
        · exact hlt0
        · have := (List.pairwise_cons.1 hp'.2.1).1 y hy
          exact cok_comp.lt_le hlt0 (Int.le_of_lt this)
      · intro y hy
        rw [List.drop_eq_nil_of_le hge] at hy; simp at hy
    refine ⟨?_, ?_⟩
    · rw [List.pairwise_append]
      refine ⟨hp'.1, List.pairwise_cons.2 ⟨hdrop, hp'.2.1⟩, ?_⟩
      intro a ha b hb
      rcases List.mem_cons.1 hb with rfl | hb
      · exact rAt_lt _ m a ha
      · exact hp'.2.2 a ha b hb
    · intro x
      conv => rhs; rw [hsplit]
      simp only [List.mem_append, List.mem_cons]
      constructor
      · rintro (h | h | h)
        · exact .inl (.inl h)
        · exact .inr h
        · exact .inl (.inr h)
      · rintro ((h | h) | h)
        · exact .inl h
        · exact .inr (.inr h)
        · exact .inr (.inl h)
theorem rOrd_ok : ∀ (l m : List Ent), (m.Pairwise fun a b => compE a b < 0) → (∀ x ∈ m ++ l, ∀ y ∈ m ++ l, compE x y = 0 → x = y) →
    ((l.foldl rIns m).Pairwise fun a b => compE a b < 0) ∧ ∀ x, x ∈ l.foldl rIns m ↔ x ∈ m ∨ x ∈ l
  | [], m, hp, _ => ⟨hp, by simp⟩
  | e :: l, m, hp, hz => by
    obtain ⟨h1, h2⟩ := rIns_ok hp fun x hx h0 => hz x (by simp [hx]) e (by simp) h0
    rw [List.foldl_cons]
    have hsub : ∀ x ∈ rIns m e ++ l, x ∈ m ++ e :: l := by
      intro x hx
      rcases List.mem_append.1 hx with h | h
      · rcases (h2 x).1 h with h | h
        · simp [h]
        · simp [h]
      · simp [h]
    obtain ⟨h3, h4⟩ := rOrd_ok l (rIns m e) h1 fun x hx y hy => hz x (hsub x hx) y (hsub y hy)
    refine ⟨h3, fun x => ?_⟩
    rw [h4, h2, List.mem_cons]
    constructor
    · rintro ((h | h) | h)
      · exact .inl h
      · exact .inr (.inl h)
      · exact .inr (.inr h)
    · rintro (h | h | h)
      · exact .inl (.inl h)
      · exact .inl (.inr h)
      · exact .inr h
def rClash (e x : Ent) : Bool := (e.seq == x.seq) && !sameE e x
def rTwice (pre : List Ent) : List Ent → Bool
  | [] => false
  | e :: l => pre.any (rClash e) || rTwice (pre ++ [e]) l
theorem rClash_iff (e x : Ent) : rClash e x = true ↔ e.seq = x.seq ∧ e ≠ x := by
  simp [rClash, sameE]
theorem dd_twice : ∀ (l acc pre : List Ent), (∀ x, x ∈ acc ↔ x ∈ pre) → (acc.Pairwise fun a b => a.seq ≠ b.seq) → (ddE acc l = none ↔ rTwice pre l = true)
  | [], acc, pre, _, _ => by simp [ddE, rTwice]
  | e :: l, acc, pre, hmem, hpw => by
    rw [ddE, rTwice, Bool.or_eq_true, List.any_eq_true]
    cases hs : seqOf acc e.seq with
    | none =>
      have h0 := seqOf_none hs
      have hno : ¬ ∃ x ∈ pre, rClash e x = true := by
        rintro ⟨x, hx, h⟩
        exact h0 x ((hmem x).2 hx) ((rClash_iff e x).1 h).1.symm
      simp only [hno, false_or]
      refine dd_twice l (acc ++ [e]) (pre ++ [e]) (fun x => by simp [hmem]) ?_
      rw [List.pairwise_append]
      exact ⟨hpw, by simp, fun a ha b hb => by simp at hb; subst hb; exact h0 a ha⟩
    | some x =>
      obtain ⟨hx, hxs⟩ := seqOf_some hs
      simp only
      by_cases hxe : x = e
      · rw [if_pos hxe]
        subst hxe
        have hno : ¬ ∃ y ∈ pre, rClash x y = true := by
          rintro ⟨y, hy, h⟩
          obtain ⟨h1, h2⟩ := (rClash_iff x y).1 h
          exact pairwise_ne hpw hx ((hmem y).2 hy) h2 h1
        simp only [hno, false_or]
        refine dd_twice l acc (pre ++ [x]) (fun y => ?_) hpw
        rw [hmem]
        constructor
        · intro h; simp [h]
        · intro h
          rcases List.mem_append.1 h with h | h
          · exact h
          · simp at h; subst h; exact (hmem y).1 hx
      · rw [if_neg hxe]
        simp only [true_iff]
        exact .inl ⟨x, (hmem x).1 hx, (rClash_iff e x).2 ⟨hxs.symm, fun h => hxe h.symm⟩⟩
theorem sorted_rOrd (l : List Ent) : sortedE l = if rTwice [] l = true then ([], 31) else (rOrd l, 0) := by
  have h0 := dd_twice l [] [] (fun x => Iff.rfl) List.Pairwise.nil
  unfold sortedE
  cases hd : ddE [] l with
  | none => rw [if_pos (h0.1 hd)]
  | some d =>
    have hn : ¬ rTwice [] l = true := fun h => by rw [h0.2 h] at hd; cases hd
    rw [if_neg hn]
    have hseq := ddE_seq l [] d hd List.Pairwise.nil
    have hmem : ∀ x, x ∈ d ↔ x ∈ l := fun x => by rw [ddE_mem l [] d hd]; simp
    have hs := (stabL_perm d).symm.pairwise hseq fun h => Ne.symm h
    have hstr := strict_of (stabL_srt d) hs
    have hz : ∀ x ∈ [] ++ l, ∀ y ∈ [] ++ l, compE x y = 0 → x = y := by
      intro x hx y hy h
      apply Classical.byContradiction
      intro hne
      exact pairwise_ne hseq ((hmem x).2 (by simpa using hx)) ((hmem y).2 (by simpa using hy)) hne (comp_zero_seq h)
    obtain ⟨h1, h2⟩ := rOrd_ok l [] List.Pairwise.nil hz
    show (stabL ltE d, (0 : Int)) = (rOrd l, 0)
    congr 1
    refine order_ext (fun x => ?_) hstr h1
    rw [stabL_mem, hmem]
    show _ ↔ x ∈ List.foldl rIns [] l
    rw [h2]; simp
def rChk (fams : Int) : List Ent → Int
  | [] => 0
  | e :: l => if checkE e ≠ 0 then checkE e else if (decide (0 ≤ fams) && decide (fams ≤ e.fam)) = true then 21 else rChk fams l
def rChecked (l : List Ent) (fams : Int) : Int := if rChk fams l ≠ 0 then rChk fams l else if rTwice [] l = true then 31 else 0
def tOut (t : Int) : Bool := decide (t < 0) || decide (1099511627776 < t)
def rAsked (s : List Fml) (clock low t n : Int) (l : List Ent) : Int :=
  if schemaE s ≠ 0 then schemaE s else if ((((tOut clock || tOut low) || tOut t) || decide (n < 1)) || decide (16 < n)) = true then 32 else rChecked l s.length
def rSquashE (s : List Fml) (clock : Int) (major : Bool) (low : Int) (l : List Ent) : List Ent × Int := if rAsked s clock low 0 1 l ≠ 0 then ([], rAsked s clock low 0 1 l) else (rSquash s clock major low (rOrd l), 0)
theorem rChk_bads (s : List Fml) : ∀ (l : List Ent), rChk s.length l = badsE s l
  | [] => rfl
  | e :: l => by
    rw [rChk, badsE, rChk_bads s l]
    unfold checkedE
    by_cases h : checkE e ≠ 0
    · rw [if_pos h, if_pos h, if_pos h]
    · rw [if_neg h, if_neg h]
      by_cases h2 : (s.length : Int) ≤ e.fam
      · rw [if_pos (show (decide (0 ≤ (s.length : Int)) && decide ((s.length : Int) ≤ e.fam)) = true by simpa using h2), if_pos h2]; rfl
      · rw [if_neg (show ¬ (decide (0 ≤ (s.length : Int)) && decide ((s.length : Int) ≤ e.fam)) = true by simpa using h2), if_neg h2]; rfl
theorem bout_t (t : Int) : bout t 0 1099511627776 = tOut t := rfl
theorem prep_rAsked (s : List Fml) (clock : Int) (times : List Int) (k low t n : Int) (l : List Ent)
    (hb : (timesBad (clock :: times) || bout k 1 16) = ((((tOut clock || tOut low) || tOut t) || decide (n < 1)) || decide (16 < n))) :
    prepE s clock times k l = if rAsked s clock low t n l ≠ 0 then ([], rAsked s clock low t n l) else (rOrd l, 0) := by
  have hbd : boundsE s clock times k = if schemaE s ≠ 0 then schemaE s else if ((((tOut clock || tOut low) || tOut t) || decide (n < 1)) || decide (16 < n)) = true then 32 else 0 := by
    rw [← hb]
    unfold boundsE
    cases timesBad (clock :: times) <;> cases bout k 1 16 <;> simp
  unfold prepE rAsked
  rw [hbd]
  by_cases h1 : schemaE s ≠ 0
  · simp only [if_pos h1]
  · simp only [if_neg h1]
    by_cases h2 : ((((tOut clock || tOut low) || tOut t) || decide (n < 1)) || decide (16 < n)) = true
    · simp only [if_pos h2]; simp
    · simp only [if_neg h2]
      unfold rChecked
      rw [rChk_bads]
      simp only [ne_eq, not_true_eq_false, if_false]
      by_cases h3 : badsE s l = 0
      · simp only [h3, not_true_eq_false, if_false]
        rw [sorted_rOrd]
        split <;> simp
      · simp only [h3, not_false_eq_true, if_true]
end Go.Rt
namespace Go.Rt
open Go Go.Sx Classical
theorem z_checked {s : List Fml} {e : Ent} (h : checkedE s e = 0) : checkE e = 0 ∧ e.fam < s.length := by
  unfold checkedE at h
  split at h
  · rename_i h1; exact absurd h h1
  · rename_i h1
    split at h
    · exact absurd h (by decide)
    · rename_i h2
      exact ⟨by simpa using h1, by omega⟩
theorem z_bads {s : List Fml} : ∀ {l : List Ent}, badsE s l = 0 → ∀ e ∈ l, checkedE s e = 0
  | [], _, e, he => by cases he
  | x :: l, h, e, he => by
    rw [badsE] at h
    split at h
    · rename_i h1; exact absurd h h1
    · rename_i h1
      rcases List.mem_cons.1 he with rfl | he
      · simpa using h1
      · exact z_bads h e he
structure ZChk (e : Ent) : Prop where
  row : 1 ≤ (e.row.length : Int) ∧ (e.row.length : Int) ≤ 256
  fam : 0 ≤ e.fam ∧ e.fam ≤ 7
  q : badQ e = false
  ts : 1 ≤ e.ts ∧ e.ts ≤ 1099511627776
  seq : 0 ≤ e.seq ∧ e.seq ≤ 17592186044431
  kind : 1 ≤ e.kind ∧ e.kind ≤ 5
  v : badV e = false
theorem z_chk {e : Ent} (h : checkE e = 0) : ZChk e := by
  unfold checkE at h
  repeat' split at h
  all_goals first | (exact absurd h (by decide)) | skip
  rename_i h1 h2 h3 h4 h5 h6 h7
  exact ⟨bout_false (by simpa using h1), bout_false (by simpa using h2), by simpa using h3, bout_false (by simpa using h4), bout_false (by simpa using h5), bout_false (by simpa using h6), by simpa using h7⟩
theorem z_good {e : Ent} (h : ZChk e) : EGood e := by
  refine ⟨h.ts.1, fun h5 => ?_⟩
  have g3 := h.q
  unfold badQ at g3
  by_cases hq : (256 : Int) < e.qual.length
  · simp [hq] at g3
  · have hz : ¬ 0 < (e.qual.length : Int) := by
      intro h0; simp [hq, h5] at g3; exact absurd h0 (by simp [g3])
    exact List.length_eq_zero_iff.1 (by omega)
structure ZReady (s : List Fml) (l m : List Ent) : Prop where
  ord : InOrder m
  chk : ∀ e ∈ m, ZChk e ∧ e.fam < s.length
  mem : ∀ e, e ∈ m ↔ e ∈ l
  bads : ∀ e ∈ l, checkedE s e = 0
  len : m.length ≤ l.length
theorem ZReady.kind {s : List Fml} {l m : List Ent} (h : ZReady s l m) : ∀ e ∈ m, 1 ≤ e.kind ∧ e.kind ≤ 5 := fun e he => (h.chk e he).1.kind
theorem z_ready {s : List Fml} {clock : Int} {times : List Int} {k : Int} {l : List Ent} (h : (prepE s clock times k l).2 = 0) :
    boundsE s clock times k = 0 ∧ ZReady s l (prepE s clock times k l).1 := by
  unfold prepE at h ⊢
  by_cases h1 : boundsE s clock times k ≠ 0
  · rw [if_pos h1] at h; exact absurd h h1
  · rw [if_neg h1] at h ⊢
    by_cases h2 : badsE s l ≠ 0
    · rw [if_pos h2] at h; exact absurd h h2
    · rw [if_neg h2] at h ⊢
      have h2 : badsE s l = 0 := by simpa using h2
      have hall := z_bads h2
      refine ⟨by simpa using h1, ?_⟩
      unfold sortedE at h ⊢
      cases hd : ddE [] l with
      | none => rw [hd] at h; exact absurd h (by decide)
      | some d =>
        have hmem : ∀ e, e ∈ stabL ltE d ↔ e ∈ l := fun e => by rw [stabL_mem, ddE_mem l [] d hd]; simp
        have hc : ∀ e ∈ stabL ltE d, ZChk e ∧ e.fam < s.length := fun e he => by
          have := z_checked (hall e ((hmem e).1 he))
          exact ⟨z_chk this.1, this.2⟩
        have hs := (stabL_perm d).symm.pairwise (ddE_seq l [] d hd List.Pairwise.nil) fun h => Ne.symm h
        refine ⟨⟨strict_of (stabL_srt d) hs, hs, fun e he => z_good (hc e he).1⟩, hc, hmem, hall, ?_⟩
        show (stabL ltE d).length ≤ _
        rw [stabL_length]
        simpa using ddE_length l [] d hd
theorem schema_max {s : List Fml} : ∀ {l : List Fml} {i : Nat}, famsBad s l i = false → ∀ f ∈ l, 1 ≤ f.max ∧ f.max ≤ 16 ∧ 0 ≤ f.ttl ∧ f.ttl ≤ 1099511627776
  | [], _, _, f, hf => by cases hf
  | g :: l, i, h, f, hf => by
    rw [famsBad_cons, Bool.or_eq_false_iff] at h
    rcases List.mem_cons.1 hf with rfl | hf
    · have h1 := h.1
      unfold famBad at h1
      simp only [Bool.or_eq_false_iff] at h1
      have h2 := bout_false h1.1.2
      have h3 := bout_false h1.2
      omega
    · exact schema_max h.2 f hf
theorem z_schema {s : List Fml} (h : schemaE s = 0) : 1 ≤ s.length ∧ s.length ≤ 8 ∧ ∀ f ∈ s, 1 ≤ f.max ∧ f.max ≤ 16 ∧ 0 ≤ f.ttl ∧ f.ttl ≤ 1099511627776 := by
  unfold schemaE at h
  split at h
  · exact absurd h (by decide)
  · rename_i h1
    split at h
    · exact absurd h (by decide)
    · rename_i h2
      have := bout_false (Bool.eq_false_iff.2 h1)
      exact ⟨by omega, by omega, schema_max (Bool.eq_false_iff.2 h2)⟩
theorem famAt_mem {s : List Fml} {i : Int} (h0 : 0 ≤ i) (h : i < s.length) : famAt s i ∈ s := by
  unfold famAt
  have : i.toNat < s.length := by omega
  simp [List.getD, List.getElem?_eq_getElem this]
section
variable (s : List Fml) (clock : Int) (l : List Ent)
theorem prep_cases {times : List Int} {k low t n : Int} (hb : (timesBad (clock :: times) || bout k 1 16) = ((((tOut clock || tOut low) || tOut t) || decide (n < 1)) || decide (16 < n))) :
    ((rAsked s clock low t n l ≠ 0 ∧ prepE s clock times k l = ([], rAsked s clock low t n l)) ∨ (rAsked s clock low t n l = 0 ∧ prepE s clock times k l = (rOrd l, 0) ∧ ZReady s l (rOrd l) ∧ boundsE s clock times k = 0)) := by
  have h := prep_rAsked s clock times k low t n l hb
  by_cases h0 : rAsked s clock low t n l = 0
  · rw [h0] at h
    simp only [ne_eq, not_true_eq_false, if_false] at h
    have hr := z_ready (s := s) (clock := clock) (times := times) (k := k) (l := l) (by rw [h])
    rw [h] at hr
    exact .inr ⟨h0, h, hr.2, hr.1⟩
  · rw [if_pos h0] at h
    exact .inl ⟨h0, h⟩
theorem squash_ref (mj : Bool) (low : Int) : squashE s clock mj low l = rSquashE s clock mj low l := by
  unfold squashE rSquashE
  rcases prep_cases s clock l (times := [low]) (k := 1) (low := low) (t := 0) (n := 1) (by simp [timesBad, bout_t, tOut, bout]) with ⟨h0, h⟩ | ⟨h0, h, hr, _⟩
  · rw [h]; simp only [h0, ne_eq, not_false_eq_true, if_true]
  · rw [h, h0]
    simp only [ne_eq, not_true_eq_false, if_false]
    rw [keptOf_eq _ _ _ _ _ hr.ord, rSquash_eq hr.ord hr.kind]
end
end Go.Rt
namespace Go.Rt
open Go Go.Sx
theorem sameCol_row {a b : Ent} (h : sameColE a b = true) : a.row = b.row := by
  unfold sameColE sameFamE at h
  simp_all
theorem sameCol_row_ne {a b : Ent} (h : a.row ≠ b.row) : sameColE a b = false := by
  rw [← Bool.not_eq_true]; exact fun h' => h (sameCol_row h')
def rowNew (w : Wlk) (e : Ent) : Bool := bif w.any then !(w.last.row == e.row) else false
def preW (w : Wlk) (e : Ent) : Wlk := bif rowNew w e then closeW w else w
def preT {P : Program} (T : Tk P) (w : Wlk) (st : T.σ) (e : Ent) : T.σ := bif rowNew w e then closeT T w st else st
def rowOK (w : Wlk) : Prop := w.opn = true → w.any = true ∧ w.ge.row = w.last.row
theorem closeW_opn (w : Wlk) : (closeW w).opn = false := by
  unfold closeW; split
  · assumption
  · rfl
theorem closeW_any (w : Wlk) : (closeW w).any = w.any ∧ (closeW w).last = w.last ∧ (closeW w).s = w.s ∧ (closeW w).clock = w.clock := by unfold closeW; split <;> exact ⟨rfl, rfl, rfl, rfl⟩
theorem closeW_id {w : Wlk} (h : w.opn = false) : closeW w = w := if_pos h
theorem ends_new {w : Wlk} {e : Ent} (hr : rowOK w) (hn : rowNew w e = true) (ho : w.opn = true) : endsE w e = true := by
  obtain ⟨ha, hg⟩ := hr ho
  unfold rowNew at hn
  rw [ha, cond_true] at hn
  have hne : w.ge.row ≠ e.row := by rw [hg]; simpa using hn
  unfold endsE
  rw [ho, sameCol_row_ne hne]; rfl
theorem ends_closed {w : Wlk} {e : Ent} (ho : w.opn = false) : endsE w e = false := by unfold endsE; rw [ho]; rfl
theorem pre_nx1 {w : Wlk} {e : Ent} (hr : rowOK w) : nx1 (preW w e) e = nx1 w e := by
  unfold preW
  cases hn : rowNew w e with
  | false => rfl
  | true =>
    simp only [cond_true]
    cases ho : w.opn with
    | false => rw [closeW_id ho]
    | true => unfold nx1; rw [ends_new hr hn ho, ends_closed (closeW_opn w)]; rfl
theorem pre_next {w : Wlk} {e : Ent} (hr : rowOK w) : nextW (preW w e) e = nextW w e := by unfold nextW; rw [pre_nx1 hr]
theorem pre_nextT {P : Program} {T : Tk P} {w : Wlk} {st : T.σ} {e : Ent} (hr : rowOK w) : nextT T (preW w e) (preT T w st e) e = nextT T w st e ∧ nt1 T (preW w e) (preT T w st e) e = nt1 T w st e := by
  have h : nt1 T (preW w e) (preT T w st e) e = nt1 T w st e := by
    unfold preW preT
    cases hn : rowNew w e with
    | false => rfl
    | true =>
      simp only [cond_true]
      cases ho : w.opn with
      | false => rw [closeW_id ho]; unfold closeT; rw [if_pos ho]
      | true => unfold nt1; rw [ends_new hr hn ho, ends_closed (closeW_opn w)]; rfl
  refine ⟨?_, h⟩
  unfold nextT
  rw [h, pre_nx1 hr]
theorem nextW_any (w : Wlk) (e : Ent) : (nextW w e).any = true ∧ (nextW w e).last = e := by
  unfold nextW nx5
  split
  · exact ⟨rfl, rfl⟩
  · split
    · exact ⟨rfl, rfl⟩
    · unfold verW; split <;> exact ⟨rfl, rfl⟩
theorem nextW_row (w : Wlk) (e : Ent) : rowOK (nextW w e) := by
  have h1 : (nx1 w e).opn = true → sameColE (nx1 w e).ge e = true := by
    unfold nx1
    cases hb : endsE w e with
    | true => intro ho; rw [cond_true, closeW_opn] at ho; cases ho
    | false =>
      intro ho
      simp only [cond_false] at ho ⊢
      unfold endsE at hb
      rw [ho, cond_true] at hb
      cases hs : sameColE w.ge e with
      | true => rfl
      | false => rw [hs] at hb; simp at hb
  have h2 : (nx2 (nx1 w e) e).opn = true → sameColE (nx2 (nx1 w e) e).ge e = true := by unfold nx2; cases newFam (nx1 w e) e <;> exact h1
  have h3 : (nx3 (nx2 (nx1 w e) e) e).opn = true → sameColE (nx3 (nx2 (nx1 w e) e) e).ge e = true := by unfold nx3; cases newCol (nx2 (nx1 w e) e) e <;> exact h2
  intro ho
  refine ⟨(nextW_any w e).1, ?_⟩
  rw [(nextW_any w e).2]
  revert ho
  unfold nextW nx5
  split
  · exact fun ho => sameCol_row (h3 ho)
  · split
    · exact fun ho => sameCol_row (h3 ho)
    · unfold verW; split
      · exact fun _ => rfl
      · exact fun ho => sameCol_row (h3 ho)
theorem verW_open {v : Wlk} (e : Ent) (h : v.opn = true) : verW v e = { v with lone := if e.kind ≠ 3 then false else v.lone } := by
  unfold verW; exact if_neg (by rw [h]; decide)
theorem verW_shut {v : Wlk} (e : Ent) (h : v.opn = false) : verW v e = { v with opn := true, ge := e, lone := e.kind == 3 } := by
  unfold verW; exact if_pos h
structure Eqv (w w' : Wlk) : Prop where
  s : w.s = w'.s
  clock : w.clock = w'.clock
  any : w.any = w'.any
  opn : w.opn = w'.opn
  last : w.any = true → w.last = w'.last ∧ w.famMask = w'.famMask ∧ w.colMask = w'.colMask ∧ w.rank = w'.rank
  ge : w.opn = true → w.any = true ∧ w.ge = w'.ge ∧ w.lone = w'.lone
theorem Eqv.dec {w w' : Wlk} (h : Eqv w w') (ho : w.opn = true) : dec0 w = dec0 w' ∧ decOf w = decOf w' := by
  obtain ⟨ha, hg, hl⟩ := h.ge ho
  obtain ⟨h1, h2, h3, h4⟩ := h.last ha
  have h0 : dec0 w = dec0 w' := by unfold dec0; rw [hg, hl, h2, h3, h.s, h.clock]
  exact ⟨h0, by unfold decOf; rw [h0, hl, h4]⟩
theorem Eqv.close {w w' : Wlk} (h : Eqv w w') : closeV w = closeV w' ∧ Eqv (closeW w) (closeW w') := by
  have ho := h.opn
  cases hb : w.opn with
  | false =>
    rw [hb] at ho
    exact ⟨by unfold closeV; rw [if_pos hb, if_pos ho.symm], by rw [closeW_id hb, closeW_id ho.symm]; exact h⟩
  | true =>
    rw [hb] at ho
    obtain ⟨h0, h1⟩ := h.dec hb
    obtain ⟨ha, hg, hl⟩ := h.ge hb
    obtain ⟨g1, g2, g3, g4⟩ := h.last ha
    refine ⟨by unfold closeV; rw [if_neg (by simp [hb]), if_neg (by simp [← ho]), h1], ?_⟩
    unfold closeW
    rw [if_neg (by simp [hb]), if_neg (by simp [← ho])]
    exact ⟨h.s, h.clock, h.any, rfl, fun _ => ⟨g1, g2, g3, by simp only [h0, hl, g4]⟩, fun ho => by cases ho⟩
theorem Eqv.next {w w' : Wlk} (h : Eqv w w') (e : Ent) : evN w e = evN w' e ∧ Eqv (nextW w e) (nextW w' e) := by
  have hends : endsE w e = endsE w' e := by
    unfold endsE
    rw [← h.opn]
    cases hb : w.opn with
    | false => rfl
    | true => obtain ⟨_, hg, _⟩ := h.ge hb; rw [hg]
  have h1 : Eqv (nx1 w e) (nx1 w' e) ∧ ev1 w e = ev1 w' e := by
    unfold nx1 ev1; rw [← hends]
    cases endsE w e with
    | false => exact ⟨h, rfl⟩
    | true => exact ⟨h.close.2, h.close.1⟩
  obtain ⟨h1, he1⟩ := h1
  have hfam : newFam (nx1 w e) e = newFam (nx1 w' e) e := by
    unfold newFam; rw [← h1.any]
    cases hb : (nx1 w e).any with
    | false => rfl
    | true => rw [(h1.last hb).1]
  have h2 : Eqv (nx2 (nx1 w e) e) (nx2 (nx1 w' e) e) ∧ (nx2 (nx1 w e) e).famMask = (nx2 (nx1 w' e) e).famMask ∧ (nx2 (nx1 w e) e).colMask = (nx2 (nx1 w' e) e).colMask ∧ (nx2 (nx1 w e) e).rank = (nx2 (nx1 w' e) e).rank := by
    unfold nx2; rw [← hfam]
    cases hb : newFam (nx1 w e) e with
    | true => exact ⟨⟨h1.s, h1.clock, h1.any, h1.opn, fun ha => ⟨(h1.last ha).1, rfl, rfl, rfl⟩, h1.ge⟩, rfl, rfl, rfl⟩
    | false =>
      have ha : (nx1 w e).any = true := by
        unfold newFam at hb
        cases hc : (nx1 w e).any with
        | true => rfl
        | false => rw [hc] at hb; simp at hb
      obtain ⟨g1, g2, g3, g4⟩ := h1.last ha
      exact ⟨h1, g2, g3, g4⟩
  obtain ⟨h2, m1, m2, m3⟩ := h2
  have hcol : newCol (nx2 (nx1 w e) e) e = newCol (nx2 (nx1 w' e) e) e := by
    unfold newCol; rw [← h2.any]
    cases hb : (nx2 (nx1 w e) e).any with
    | false => rfl
    | true => rw [(h2.last hb).1]
  have h3 : Eqv (nx3 (nx2 (nx1 w e) e) e) (nx3 (nx2 (nx1 w' e) e) e) ∧ (nx3 (nx2 (nx1 w e) e) e).famMask = (nx3 (nx2 (nx1 w' e) e) e).famMask ∧ (nx3 (nx2 (nx1 w e) e) e).colMask = (nx3 (nx2 (nx1 w' e) e) e).colMask ∧ (nx3 (nx2 (nx1 w e) e) e).rank = (nx3 (nx2 (nx1 w' e) e) e).rank := by
    unfold nx3; rw [← hcol]
    cases newCol (nx2 (nx1 w e) e) e with
    | true => exact ⟨⟨h2.s, h2.clock, h2.any, h2.opn, fun ha => ⟨(h2.last ha).1, m1, rfl, rfl⟩, h2.ge⟩, m1, rfl, rfl⟩
    | false => exact ⟨h2, m1, m2, m3⟩
  obtain ⟨h3, n1, n2, n3⟩ := h3
  unfold evN nextW
  rw [he1]
  generalize nx3 (nx2 (nx1 w e) e) e = u at *
  generalize nx3 (nx2 (nx1 w' e) e) e = u' at *
  have ho := h3.opn
  refine ⟨by congr 1; unfold ev5 nx4; simp only [n1, n2, ho], ?_⟩
  unfold nx5
  by_cases h5 : e.kind = 5
  · rw [if_pos h5, if_pos h5]
    exact ⟨h3.s, h3.clock, rfl, ho, fun _ => ⟨rfl, by simp only [nx4, n1], n2, n3⟩, fun hh => ⟨rfl, (h3.ge hh).2⟩⟩
  · rw [if_neg h5, if_neg h5]
    by_cases h4 : e.kind = 4
    · rw [if_pos h4, if_pos h4]
      exact ⟨h3.s, h3.clock, rfl, ho, fun _ => ⟨rfl, n1, by simp only [nx4, n2], n3⟩, fun hh => ⟨rfl, (h3.ge hh).2⟩⟩
    · rw [if_neg h4, if_neg h4]
      cases hb : u.opn with
      | false =>
        have hb' : u'.opn = false := by rw [← ho]; exact hb
        rw [verW_shut e (v := nx4 u e) hb, verW_shut e (v := nx4 u' e) hb']
        exact ⟨h3.s, h3.clock, rfl, rfl, fun _ => ⟨rfl, n1, n2, n3⟩, fun _ => ⟨rfl, rfl, rfl⟩⟩
      | true =>
        have hb' : u'.opn = true := by rw [← ho]; exact hb
        rw [verW_open e (v := nx4 u e) hb, verW_open e (v := nx4 u' e) hb']
        obtain ⟨_, g1, g2⟩ := h3.ge hb
        exact ⟨h3.s, h3.clock, rfl, ho, fun _ => ⟨rfl, n1, n2, n3⟩, fun _ => ⟨rfl, g1, by simp only [nx4, g2]⟩⟩
theorem Eqv.evP : ∀ {l : List Ent} {w w' : Wlk}, Eqv w w' → evP l w = evP l w'
  | [], _, _, h => h.close.1
  | e :: l, w, w', h => by rw [Rt.evP, Rt.evP, (h.next e).1, Eqv.evP (h.next e).2]
theorem evP_fresh {s : List Fml} {clock : Int} {w : Wlk} (h1 : w.any = false) (h2 : w.opn = false) (h3 : w.s = s) (h4 : w.clock = clock) (l : List Ent) : evP l w = evP l (wlk0 s clock) :=
  Eqv.evP ⟨h3, h4, h1, h2, fun h => (by rw [h1] at h; cases h), fun h => (by rw [h2] at h; cases h)⟩
structure WI (s : List Fml) (clock : Int) (w : Wlk) (A : List Ent) (es : List Ev) : Prop where
  sch : w.s = s
  clk : w.clock = clock
  emp : A = [] → w.any = false ∧ w.opn = false
  lst : ∀ A' e, A = A' ++ [e] → w.any = true ∧ w.last = e
  row : rowOK w
  ev : ∀ B, evP (A ++ B) (wlk0 s clock) = es ++ evP B w
theorem nextW_clk (w : Wlk) (e : Ent) : (nextW w e).clock = w.clock := by
  have h1 : (nx1 w e).clock = w.clock := by unfold nx1; cases endsE w e; rfl; exact (closeW_any w).2.2.2
  have h2 : (nx2 (nx1 w e) e).clock = w.clock := by unfold nx2; cases newFam (nx1 w e) e <;> exact h1
  have h3 : (nx3 (nx2 (nx1 w e) e) e).clock = w.clock := by unfold nx3; cases newCol (nx2 (nx1 w e) e) e <;> exact h2
  unfold nextW nx5
  split
  · exact h3
  · split
    · exact h3
    · unfold verW; split <;> exact h3
theorem WI.start {s : List Fml} {clock : Int} {w : Wlk} (h1 : w.any = false) (h2 : w.opn = false) (h3 : w.s = s) (h4 : w.clock = clock) : WI s clock w [] [] :=
  ⟨h3, h4, fun _ => ⟨h1, h2⟩, fun A' e h => (by simp at h), fun h => (by rw [h2] at h; cases h), fun B => (evP_fresh h1 h2 h3 h4 B).symm⟩
theorem WI.next {s : List Fml} {clock : Int} {w : Wlk} {A : List Ent} {es : List Ev} (h : WI s clock w A es) (e : Ent) : WI s clock (nextW w e) (A ++ [e]) (es ++ evN w e) where
  sch := by rw [nextW_s]; exact h.sch
  clk := by rw [nextW_clk]; exact h.clk
  emp := fun h => by simp at h
  lst := fun A' e' he => by obtain ⟨_, h2⟩ := List.append_inj' he rfl; cases h2; exact nextW_any w e
  row := nextW_row w e
  ev := fun B => by rw [List.append_assoc, List.singleton_append, h.ev, evP, List.append_assoc]
theorem WI.done {s : List Fml} {clock : Int} {w : Wlk} {A : List Ent} {es : List Ev} (h : WI s clock w A es) : evP A (wlk0 s clock) = es ++ closeV w := by
  have := h.ev []; rw [List.append_nil] at this; exact this
def SSt.pre (o : List Ent) (st : SSt) : SSt := { st with out := o ++ st.out }
theorem shown_pre (f : List Fml) (o : List Ent) : ∀ (l : List Ev) (st : SSt), l.foldl (evT (shownG f) id fun st _ _ => st) (st.pre o) = (l.foldl (evT (shownG f) id fun st _ _ => st) st).pre o := by
  intro l
  induction l with
  | nil => intro st; rfl
  | cons v l ih =>
    intro st
    rw [List.foldl_cons, List.foldl_cons, ← ih]
    congr 1
    cases v with
    | o => rfl
    | m e b => rfl
    | g d =>
      show shownG f (st.pre o) d = (shownG f st d).pre o
      have h1 : unseen f (st.pre o) d = unseen f st d := rfl
      have h2 : cnt1 (st.pre o) d = cnt1 st d := rfl
      unfold shownG
      rw [h1, h2]
      split
      · rfl
      · show (if cnt1 st d < st.n then _ else _) = _
        split
        · simp [SSt.pre]
        · rfl
theorem shown_split (f : List Fml) (l : List Ev) (st : SSt) : l.foldl (evT (shownG f) id fun st _ _ => st) st = (l.foldl (evT (shownG f) id fun st _ _ => st) { st with out := [] }).pre st.out := by
  rw [← shown_pre]; simp [SSt.pre]
structure SEq (a b : SSt) : Prop where
  t : a.t = b.t
  n : a.n = b.n
  out : a.out = b.out
  count : a.count = b.count
  last : 0 < a.count → a.last = b.last
theorem SEq.run (f : List Fml) : ∀ (l : List Ev) {a b : SSt}, SEq a b → 0 ≤ a.count → SEq (l.foldl (evT (shownG f) id fun st _ _ => st) a) (l.foldl (evT (shownG f) id fun st _ _ => st) b) := by
  intro l
  induction l with
  | nil => intro a b h _; exact h
  | cons v l ih =>
    intro a b h h0
    rw [List.foldl_cons, List.foldl_cons]
    cases v with
    | o => exact ih h h0
    | m e b => exact ih h h0
    | g d =>
      have hu : unseen f a d = unseen f b d := by unfold unseen; rw [h.t]
      have hc : cnt1 a d = cnt1 b d := by
        unfold cnt1
        rw [← h.count]
        by_cases hp : 0 < a.count
        · rw [h.last hp]
        · have : decide (0 < a.count) = false := by simpa using hp
          rw [this]; rfl
      have hc0 : 0 ≤ cnt1 a d := by unfold cnt1; split <;> omega
      have hg : SEq (shownG f a d) (shownG f b d) ∧ 0 ≤ (shownG f a d).count := by
        unfold shownG
        rw [← hu, ← hc]
        have hn := h.n
        by_cases h1 : unseen f a d = true
        · rw [if_pos h1, if_pos h1]; exact ⟨h, h0⟩
        · rw [if_neg h1, if_neg h1]
          by_cases h2 : cnt1 a d < a.n
          · rw [if_pos h2, if_pos (by omega)]
            exact ⟨⟨h.t, h.n, by simp [h.out], rfl, fun _ => rfl⟩, by show 0 ≤ cnt1 a d + 1; omega⟩
          · rw [if_neg h2, if_neg (by omega)]
            refine ⟨⟨h.t, h.n, h.out, rfl, fun hp => ?_⟩, hc0⟩
            have : 0 < cnt1 a d := hp
            refine h.last ?_
            unfold cnt1 at this; split at this <;> omega
      exact ih hg.1 hg.2
end Go.Rt
namespace Go.Rt
open Go Go.Sx Classical
def evW (s : List Fml) (major : Bool) (low : Int) : Ev → Int
  | .g d => if d.masked = true then 2 else if d.expired = true then 3 else if d.nothing = true ∧ major = true then 5 else if d.nothing = true then 0 else if (famAt s d.e.fam).max < d.rank then 4 else 0
  | .o => 1
  | .m e b => if b = false ∨ major = true ∧ e.ts ≤ low then 5 else 0
def isW (j w : Int) : Int := if w = j then 1 else 0
structure Drp where
  o : Int
  m : Int
  x : Int
  a : Int
  k : Int
def Drp.add (d : Drp) (w : Int) : Drp := ⟨d.o + isW 1 w, d.m + isW 2 w, d.x + isW 3 w, d.a + isW 4 w, d.k + isW 5 w⟩
def KSt.drp (st : KSt) : Drp := ⟨st.older, st.masked, st.expired, st.above, st.marks⟩
def cntW (j : Int) (l : List Int) : Int := (l.map (isW j)).sum
theorem cntW_app (j : Int) (a b : List Int) : cntW j (a ++ b) = cntW j a + cntW j b := by simp [cntW]
theorem cntW_cons (j x : Int) (b : List Int) : cntW j (x :: b) = isW j x + cntW j b := by simp [cntW]
def Drp.adds (d : Drp) (l : List Int) : Drp := ⟨d.o + cntW 1 l, d.m + cntW 2 l, d.x + cntW 3 l, d.a + cntW 4 l, d.k + cntW 5 l⟩
theorem Drp.adds_nil (d : Drp) : d.adds [] = d := by cases d; simp [Drp.adds, cntW]
theorem Drp.adds_cons (d : Drp) (w : Int) (l : List Int) : d.adds (w :: l) = (d.add w).adds l := by simp only [Drp.adds, Drp.add, cntW_cons, Int.add_assoc]
theorem Drp.adds_app (d : Drp) (a b : List Int) : d.adds (a ++ b) = (d.adds a).adds b := by simp only [Drp.adds, cntW_app, Int.add_assoc]
theorem kept_step (s : List Fml) (st : KSt) (v : Ev) : (evT (keptG s) keptO keptM st v).drp = st.drp.add (evW s st.major st.low v) ∧ (evT (keptG s) keptO keptM st v).out = st.out ++ kOf s st.major st.low v ∧ (evT (keptG s) keptO keptM st v).major = st.major ∧ (evT (keptG s) keptO keptM st v).low = st.low := by
  cases v with
  | o => exact ⟨by simp [evT, keptO, KSt.drp, Drp.add, evW, isW], by simp [evT, keptO, kOf], rfl, rfl⟩
  | m e b =>
    show (keptM st e b).drp = _ ∧ (keptM st e b).out = _ ∧ _
    unfold keptM kOf evW
    by_cases h : b = false ∨ st.major = true ∧ e.ts ≤ st.low
    · simp [h, KSt.drp, Drp.add, isW, evT, keptM]
    · simp [h, KSt.drp, Drp.add, isW, evT, keptM]
  | g d =>
    show (keptG s st d).drp = _ ∧ (keptG s st d).out = _ ∧ (keptG s st d).major = _ ∧ (keptG s st d).low = _
    obtain ⟨h1, h2, h3⟩ := keptG_k s st d
    refine ⟨?_, h1, h2, h3⟩
    unfold keptG evW
    by_cases h1 : d.masked = true
    · simp [h1, KSt.drp, Drp.add, isW]
    by_cases h2 : d.expired = true
    · simp [h1, h2, KSt.drp, Drp.add, isW]
    by_cases h3 : d.nothing = true ∧ st.major = true
    · simp [h1, h2, h3, KSt.drp, Drp.add, isW]
    by_cases h4 : d.nothing = true
    · have h3' : st.major = false := by cases h : st.major; rfl; exact absurd ⟨h4, h⟩ h3
      simp [h1, h2, h4, h3', KSt.drp, Drp.add, isW]
    by_cases h5 : (famAt s d.e.fam).max < d.rank
    · simp [h1, h2, h4, h5, KSt.drp, Drp.add, isW]
    by_cases h6 : d.husk = true
    · simp [h1, h2, h4, h5, h6, KSt.drp, Drp.add, isW]
    · simp [h1, h2, h4, h5, h6, KSt.drp, Drp.add, isW]
def kF (s : List Fml) (l : List Ev) (st : KSt) : KSt := l.foldl (evT (keptG s) keptO keptM) st
theorem kF_all (s : List Fml) : ∀ (l : List Ev) (st : KSt), (kF s l st).drp = st.drp.adds (l.map (evW s st.major st.low)) ∧ (kF s l st).out = st.out ++ l.flatMap (kOf s st.major st.low) ∧ (kF s l st).major = st.major ∧ (kF s l st).low = st.low := by
  intro l
  induction l with
  | nil => intro st; exact ⟨by simp [kF, Drp.adds_nil], by simp [kF], rfl, rfl⟩
  | cons v l ih =>
    intro st
    obtain ⟨h1, h2, h3, h4⟩ := kept_step s st v
    obtain ⟨g1, g2, g3, g4⟩ := ih (evT (keptG s) keptO keptM st v)
    rw [h3, h4] at g1 g2
    refine ⟨?_, ?_, g3.trans h3, g4.trans h4⟩
    · show (kF s l _).drp = _
      rw [g1, h1, List.map_cons, Drp.adds_cons]
    · show (kF s l _).out = _
      rw [g2, h2, List.flatMap_cons, List.append_assoc]
theorem closeV_len (w : Wlk) : (closeV w).length = if w.opn = true then 1 else 0 := by unfold closeV; cases w.opn <;> rfl
theorem evN_len (w : Wlk) (e : Ent) : (evN w e).length + (if (nextW w e).opn = true then 1 else 0) = 1 + (if w.opn = true then 1 else 0) := by
  have h1 : (ev1 w e).length + (if (nx1 w e).opn = true then 1 else 0) = if w.opn = true then 1 else 0 := by
    unfold ev1 nx1
    cases hb : endsE w e with
    | false => simp
    | true =>
      have ho : w.opn = true := by
        unfold endsE at hb
        cases h : w.opn with
        | true => rfl
        | false => rw [h] at hb; cases hb
      have hc : (closeW w).opn = false := by unfold closeW; rw [if_neg (by rw [ho]; decide)]
      simp [closeV_len, ho, hc]
  have h2 : (nx2 (nx1 w e) e).opn = (nx1 w e).opn := by unfold nx2; cases newFam (nx1 w e) e <;> rfl
  have h3 : (nx3 (nx2 (nx1 w e) e) e).opn = (nx1 w e).opn := by unfold nx3; cases newCol (nx2 (nx1 w e) e) e <;> exact h2
  unfold evN nextW
  rw [List.length_append]
  generalize nx3 (nx2 (nx1 w e) e) e = u at *
  have h4 : (ev5 (nx4 u e) e).length + (if (nx5 (nx4 u e) e).opn = true then 1 else 0) = 1 + (if u.opn = true then 1 else 0) := by
    have ho : (nx4 u e).opn = u.opn := rfl
    unfold ev5 nx5
    by_cases h5 : e.kind = 5
    · simp [h5, ho]
    · by_cases h4 : e.kind = 4
      · simp [h5, h4, ho]
      · simp only [h5, h4, if_false]
        unfold verW
        cases hu : u.opn <;> simp [ho, hu]
  rw [h3] at h4
  omega
theorem evP_len : ∀ (l : List Ent) (w : Wlk), (evP l w).length = l.length + if w.opn = true then 1 else 0
  | [], w => by rw [evP, closeV_len]; simp
  | e :: l, w => by
    rw [evP, List.length_append, evP_len l, List.length_cons]
    have := evN_len w e
    omega
theorem cnt_notO (s : List Fml) (mj : Bool) (low j : Int) : ∀ (l : List Ev), cntW j (l.map (evW s mj low)) = cntW j ((l.filter notO).map (evW s mj low)) + isW j 1 * ((l.length : Int) - (l.filter notO).length)
  | [] => by simp [cntW]
  | v :: l => by
    rw [List.map_cons, cntW_cons, cnt_notO s mj low j l]
    cases v with
    | o =>
      rw [List.filter_cons_of_neg (by simp [notO])]
      simp only [evW, List.length_cons]
      have : isW j 1 * (((l.length + 1 : Nat) : Int) - ((l.filter notO).length : Int)) = isW j 1 + isW j 1 * ((l.length : Int) - ((l.filter notO).length : Int)) := by
        rw [show (((l.length + 1 : Nat) : Int) - ((l.filter notO).length : Int)) = 1 + ((l.length : Int) - ((l.filter notO).length : Int)) by omega, Int.mul_add, Int.mul_one]
      omega
    | g d =>
      rw [List.filter_cons_of_pos (by rfl), List.map_cons, cntW_cons, List.length_cons, List.length_cons]
      rw [show (((l.length + 1 : Nat) : Int) - (((l.filter notO).length + 1 : Nat) : Int)) = ((l.length : Int) - ((l.filter notO).length : Int)) by omega]
      omega
    | m e b =>
      rw [List.filter_cons_of_pos (by rfl), List.map_cons, cntW_cons, List.length_cons, List.length_cons]
      rw [show (((l.length + 1 : Nat) : Int) - (((l.filter notO).length + 1 : Nat) : Int)) = ((l.length : Int) - ((l.filter notO).length : Int)) by omega]
      omega
theorem cnt_evD (s : List Fml) (clock : Int) (m : List Ent) (mj : Bool) (low j : Int) (f : Ent → Int) : ∀ (l : List Ent), (∀ e ∈ l, (evD s clock m e = [] ∧ f e = 1) ∨ ∃ v, evD s clock m e = [v] ∧ evW s mj low v = f e) →
    cntW j (l.map f) = cntW j ((l.flatMap (evD s clock m)).map (evW s mj low)) + isW j 1 * ((l.length : Int) - (l.flatMap (evD s clock m)).length)
  | [], _ => by simp [cntW]
  | e :: l, h => by
    rw [List.map_cons, cntW_cons, cnt_evD s clock m mj low j f l (fun x hx => h x (by simp [hx])), List.flatMap_cons, List.map_append, cntW_app, List.length_append, List.length_cons]
    rcases h e (by simp) with ⟨h1, h2⟩ | ⟨v, h1, h2⟩
    · rw [h1, h2]
      have : isW j 1 * (((l.length + 1 : Nat) : Int) - ((([] : List Ev).length + (l.flatMap (evD s clock m)).length : Nat) : Int)) = isW j 1 + isW j 1 * ((l.length : Int) - ((l.flatMap (evD s clock m)).length : Int)) := by
        rw [show (((l.length + 1 : Nat) : Int) - ((([] : List Ev).length + (l.flatMap (evD s clock m)).length : Nat) : Int)) = 1 + ((l.length : Int) - ((l.flatMap (evD s clock m)).length : Int)) by simp; omega, Int.mul_add, Int.mul_one]
      rw [this]
      simp [cntW]; omega
    · rw [h1, ← h2]
      rw [show (((l.length + 1 : Nat) : Int) - (([v].length + (l.flatMap (evD s clock m)).length : Nat) : Int)) = ((l.length : Int) - ((l.flatMap (evD s clock m)).length : Int)) by simp; omega]
      simp [cntW]; omega
section
variable {s : List Fml} {clock : Int} {m : List Ent} (hm : InOrder m) (hk : ∀ e ∈ m, 1 ≤ e.kind ∧ e.kind ≤ 5)
include hm hk in
theorem rFate_why (mj : Bool) (low : Int) {e : Ent} (hmem : e ∈ m) : (evD s clock m e = [] ∧ (rFate s clock mj low m e).2 = 1) ∨ ∃ v, evD s clock m e = [v] ∧ evW s mj low v = (rFate s clock mj low m e).2 := by
  have hke := hk e hmem
  have hts := (hm.good e hmem).ts
  by_cases hv : ver e
  · have hv' := (rVer_iff hke).2 hv
    obtain ⟨g1, g2, g3⟩ := rGroup_spec hm hk hmem hv
    have n5 : e.kind ≠ 5 := hv.2
    have n4 : e.kind ≠ 4 := hv.1
    unfold rFate evD
    rw [if_neg (show ¬ rVer e = false by simp [hv']), if_neg n5, if_neg n4]
    by_cases hf : first m e
    · rw [if_neg (show ¬ (rGroup m e).2 = false by rw [g1.2 hf]; decide), if_pos hf]
      right
      refine ⟨_, rfl, ?_⟩
      unfold evW decD
      by_cases hmk : masked m e
      · rw [if_pos (show e.ts ≤ rMask m e from (rMask_iff m hts).2 hmk)]
        simp [hmk]
      · rw [if_neg (show ¬ e.ts ≤ rMask m e from fun h => hmk ((rMask_iff m hts).1 h))]
        by_cases hx : expd s clock e
        · rw [if_pos ((rExp_iff e).2 hx)]
          simp [hmk, hx]
        · rw [if_neg (show ¬ rExp s clock e = true from fun h => hx ((rExp_iff e).1 h))]
          have hout : ¬ isOut s clock m e := fun h => h.elim hmk hx
          by_cases hl : lone m e
          · rw [if_pos (g2.2 hl)]
            cases mj with
            | true => simp [hl, hmk, hx]
            | false => simp [hl, hmk, hx]
          · rw [if_neg fun h => hl (g2.1 h), rRank_eq hm hk]
            have hc : counted s clock m e := ⟨hf, hout, hl⟩
            by_cases ha : (famAt s e.fam).max < (above s clock m e : Int) + 1
            · rw [if_pos ha]
              simp [hmk, hx, hl, hc, ha]
            · rw [if_neg ha]
              by_cases h2 : (rGroup m e).1 = 2
              · rw [if_pos h2]; simp [hmk, hx, hl, hc, ha]
              · rw [if_neg h2]; simp [hmk, hx, hl, hc, ha]
    · rw [if_pos (show (rGroup m e).2 = false by rw [Bool.eq_false_iff]; exact fun h => hf (g1.1 h)), if_neg hf]
      exact .inl ⟨rfl, rfl⟩
  · have hv' : rVer e = false := by rw [Bool.eq_false_iff]; exact fun h => hv ((rVer_iff hke).1 h)
    have h05 : (rFate s clock mj low m e).2 = 0 ∨ (rFate s clock mj low m e).2 = 5 := by
      unfold rFate; rw [if_pos hv']
      split
      · exact .inr rfl
      · split
        · exact .inr rfl
        · exact .inl rfl
    have h0 := rFate_eq (s := s) (clock := clock) hm hk mj low hmem
    rw [← keepD_eq s clock mj low m e] at h0
    have h45 : e.kind = 4 ∨ e.kind = 5 := by unfold ver at hv; omega
    have hev : ∃ b, evD s clock m e = [.m e b] := by
      unfold evD
      rcases h45 with h4 | h5
      · rw [if_neg (by omega), if_pos h4]; exact ⟨_, rfl⟩
      · rw [if_pos h5]; exact ⟨_, rfl⟩
    obtain ⟨b, hb⟩ := hev
    right
    refine ⟨_, hb, ?_⟩
    rw [hb] at h0
    simp only [List.flatMap_cons, List.flatMap_nil, List.append_nil, kOf] at h0
    show (if b = false ∨ mj = true ∧ e.ts ≤ low then (5 : Int) else 0) = _
    by_cases hc : b = false ∨ mj = true ∧ e.ts ≤ low
    · rw [if_pos hc] at h0 ⊢
      rcases h05 with h | h
      · rw [if_pos h] at h0; cases h0
      · exact h.symm
    · rw [if_neg hc] at h0 ⊢
      rcases h05 with h | h
      · exact h.symm
      · rw [if_neg (by rw [h]; decide)] at h0; cases h0
include hm hk in
theorem kept_counts (mj : Bool) (low j : Int) : cntW j ((evP m (wlk0 s clock)).map (evW s mj low)) = cntW j (m.map fun e => (rFate s clock mj low m e).2) := by
  have h1 := cnt_evD s clock m mj low j (fun e => (rFate s clock mj low m e).2) m fun e he => rFate_why hm hk mj low he
  have h2 := cnt_notO s mj low j (evP m (wlk0 s clock))
  rw [evP_eq hm, evP_len] at h2
  have h3 : (wlk0 s clock).opn = false := rfl
  rw [h3] at h2
  simp only [Bool.false_eq_true, if_false, Nat.add_zero] at h2
  rw [h1, h2]
end
def olds (d : Drp) (k : Int) : Drp := { d with o := d.o + k }
theorem olds_adds (d : Drp) (k : Int) (l : List Int) : (olds d k).adds l = olds (d.adds l) k := by simp only [olds, Drp.adds, Drp.mk.injEq, and_true]; omega
def plusD (a b : Drp) : Drp := ⟨a.o + b.o, a.m + b.m, a.x + b.x, a.a + b.a, a.k + b.k⟩
def dropE (s : List Fml) (clock : Int) (mj : Bool) (low : Int) (l : List Ent) : Drp :=
  Drp.adds ⟨(l.length : Int) - (rOrd l).length, 0, 0, 0, 0⟩ ((rOrd l).map fun e => (rFate s clock mj low (rOrd l) e).2)
def okD (d : Drp) (k : Int) : Prop := (0 ≤ d.o ∧ d.o ≤ k) ∧ (0 ≤ d.m ∧ d.m ≤ k) ∧ (0 ≤ d.x ∧ d.x ≤ k) ∧ (0 ≤ d.a ∧ d.a ≤ k) ∧ (0 ≤ d.k ∧ d.k ≤ k)
theorem okD.add {d : Drp} {k : Int} (h : okD d k) (w : Int) : okD (d.add w) (k + 1) := by
  have h1 : ∀ j, 0 ≤ isW j w ∧ isW j w ≤ 1 := fun j => by unfold isW; split <;> omega
  obtain ⟨a, b, c, e, f⟩ := h
  have g1 := h1 1; have g2 := h1 2; have g3 := h1 3; have g4 := h1 4; have g5 := h1 5
  refine ⟨?_, ?_, ?_, ?_, ?_⟩ <;> simp only [Drp.add] <;> omega
end Go.Rt