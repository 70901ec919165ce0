/- Own layer: streams, as plain data: what is pushed, what the walk tells. Of every program; no condition. -/
import Derived.Test.YtijhkfhflpmajaaPE
import Derived.Test.YtijhkfhflpmajaaPG
import Derived.Test.YtijhkfhflpmajaaPH
import Derived.Test.YtijhkfhflpmajaaPJ
import Derived.Test.YtijhkfhflpmajaaPI
set_option linter.unusedSimpArgs false
set_option linter.unusedVariables false
namespace Go.Rt
open Go Go.Sx
theorem sameCol_row {a b : Ent} (h : sameColE a b = true) : a.row = b.row := by
  unfold sameColE sameFamE at h
  simp_all
theorem sameCol_row_ne {a b : Ent} (h : a.row ≠ b.row) : sameColE a b = false := by
  rw [← Bool.not_eq_true]; exact fun h' => h (sameCol_row h')
def rowNew (w : Wlk) (e : Ent) : Bool := bif w.any then !(w.last.row == e.row) else false
def preW (w : Wlk) (e : Ent) : Wlk := bif rowNew w e then closeW w else w
def preT {P : Program} (T : Tk P) (w : Wlk) (st : T.σ) (e : Ent) : T.σ := bif rowNew w e then closeT T w st else st
def rowOK (w : Wlk) : Prop := w.opn = true → w.any = true ∧ w.ge.row = w.last.row
theorem closeW_opn (w : Wlk) : (closeW w).opn = false := by
  unfold closeW; split
  · assumption
  · rfl
theorem closeW_any (w : Wlk) : (closeW w).any = w.any ∧ (closeW w).last = w.last ∧ (closeW w).s = w.s ∧ (closeW w).clock = w.clock := by unfold closeW; split <;> exact ⟨rfl, rfl, rfl, rfl⟩
theorem closeW_id {w : Wlk} (h : w.opn = false) : closeW w = w := if_pos h
theorem ends_new {w : Wlk} {e : Ent} (hr : rowOK w) (hn : rowNew w e = true) (ho : w.opn = true) : endsE w e = true := by
  obtain ⟨ha, hg⟩ := hr ho
  unfold rowNew at hn
  rw [ha, cond_true] at hn
  have hne : w.ge.row ≠ e.row := by rw [hg]; simpa using hn
  unfold endsE
  rw [ho, sameCol_row_ne hne]; rfl
theorem ends_closed {w : Wlk} {e : Ent} (ho : w.opn = false) : endsE w e = false := by unfold endsE; rw [ho]; rfl
theorem pre_nx1 {w : Wlk} {e : Ent} (hr : rowOK w) : nx1 (preW w e) e = nx1 w e := by
  unfold preW
  cases hn : rowNew w e with
  | false => rfl
  | true =>
    simp only [cond_true]
    cases ho : w.opn with
    | false => rw [closeW_id ho]
    | true => unfold nx1; rw [ends_new hr hn ho, ends_closed (closeW_opn w)]; rfl
theorem pre_next {w : Wlk} {e : Ent} (hr : rowOK w) : nextW (preW w e) e = nextW w e := by unfold nextW; rw [pre_nx1 hr]
theorem pre_nextT {P : Program} {T : Tk P} {w : Wlk} {st : T.σ} {e : Ent} (hr : rowOK w) : nextT T (preW w e) (preT T w st e) e = nextT T w st e ∧ nt1 T (preW w e) (preT T w st e) e = nt1 T w st e := by
  have h : nt1 T (preW w e) (preT T w st e) e = nt1 T w st e := by
    unfold preW preT
    cases hn : rowNew w e with
    | false => rfl
    | true =>
      simp only [cond_true]
      cases ho : w.opn with
      | false => rw [closeW_id ho]; unfold closeT; rw [if_pos ho]
      | true => unfold nt1; rw [ends_new hr hn ho, ends_closed (closeW_opn w)]; rfl
  refine ⟨?_, h⟩
  unfold nextT
  rw [h, pre_nx1 hr]
theorem nextW_any (w : Wlk) (e : Ent) : (nextW w e).any = true ∧ (nextW w e).last = e := by
  unfold nextW nx5
  split
  · exact ⟨rfl, rfl⟩
  · split
    · exact ⟨rfl, rfl⟩
    · unfold verW; split <;> exact ⟨rfl, rfl⟩
theorem nextW_row (w : Wlk) (e : Ent) : rowOK (nextW w e) := by
  have h1 : (nx1 w e).opn = true → sameColE (nx1 w e).ge e = true := by
    unfold nx1
    cases hb : endsE w e with
    | true => intro ho; rw [cond_true, closeW_opn] at ho; cases ho
    | false =>
      intro ho
      simp only [cond_false] at ho ⊢
      unfold endsE at hb
      rw [ho, cond_true] at hb
      cases hs : sameColE w.ge e with
      | true => rfl
      | false => rw [hs] at hb; simp at hb
  have h2 : (nx2 (nx1 w e) e).opn = true → sameColE (nx2 (nx1 w e) e).ge e = true := by unfold nx2; cases newFam (nx1 w e) e <;> exact h1
  have h3 : (nx3 (nx2 (nx1 w e) e) e).opn = true → sameColE (nx3 (nx2 (nx1 w e) e) e).ge e = true := by unfold nx3; cases newCol (nx2 (nx1 w e) e) e <;> exact h2
  intro ho
  refine ⟨(nextW_any w e).1, ?_⟩
  rw [(nextW_any w e).2]
  revert ho
  unfold nextW nx5
  split
  · exact fun ho => sameCol_row (h3 ho)
  · split
    · exact fun ho => sameCol_row (h3 ho)
    · unfold verW; split
      · exact fun _ => rfl
      · exact fun ho => sameCol_row (h3 ho)
theorem verW_open {v : Wlk} (e : Ent) (h : v.opn = true) : verW v e = { v with lone := if e.kind ≠ 3 then false else v.lone } := by
  unfold verW; exact if_neg (by rw [h]; decide)
theorem verW_shut {v : Wlk} (e : Ent) (h : v.opn = false) : verW v e = { v with opn := true, ge := e, lone := e.kind == 3 } := by
  unfold verW; exact if_pos h
structure Eqv (w w' : Wlk) : Prop where
  s : w.s = w'.s
  clock : w.clock = w'.clock
  any : w.any = w'.any
  opn : w.opn = w'.opn
  last : w.any = true → w.last = w'.last ∧ w.famMask = w'.famMask ∧ w.colMask = w'.colMask ∧ w.rank = w'.rank
  ge : w.opn = true → w.any = true ∧ w.ge = w'.ge ∧ w.lone = w'.lone
theorem Eqv.dec {w w' : Wlk} (h : Eqv w w') (ho : w.opn = true) : dec0 w = dec0 w' ∧ decOf w = decOf w' := by
  obtain ⟨ha, hg, hl⟩ := h.ge ho
  obtain ⟨h1, h2, h3, h4⟩ := h.last ha
  have h0 : dec0 w = dec0 w' := by unfold dec0; rw [hg, hl, h2, h3, h.s, h.clock]
  exact ⟨h0, by unfold decOf; rw [h0, hl, h4]⟩
theorem Eqv.close {w w' : Wlk} (h : Eqv w w') : closeV w = closeV w' ∧ Eqv (closeW w) (closeW w') := by
  have ho := h.opn
  cases hb : w.opn with
  | false =>
    rw [hb] at ho
    exact ⟨by unfold closeV; rw [if_pos hb, if_pos ho.symm], by rw [closeW_id hb, closeW_id ho.symm]; exact h⟩
  | true =>
    rw [hb] at ho
    obtain ⟨h0, h1⟩ := h.dec hb
    obtain ⟨ha, hg, hl⟩ := h.ge hb
    obtain ⟨g1, g2, g3, g4⟩ := h.last ha
    refine ⟨by unfold closeV; rw [if_neg (by simp [hb]), if_neg (by simp [← ho]), h1], ?_⟩
    unfold closeW
    rw [if_neg (by simp [hb]), if_neg (by simp [← ho])]
    exact ⟨h.s, h.clock, h.any, rfl, fun _ => ⟨g1, g2, g3, by simp only [h0, hl, g4]⟩, fun ho => by cases ho⟩
theorem Eqv.next {w w' : Wlk} (h : Eqv w w') (e : Ent) : evN w e = evN w' e ∧ Eqv (nextW w e) (nextW w' e) := by
  have hends : endsE w e = endsE w' e := by
    unfold endsE
    rw [← h.opn]
    cases hb : w.opn with
    | false => rfl
    | true => obtain ⟨_, hg, _⟩ := h.ge hb; rw [hg]
  have h1 : Eqv (nx1 w e) (nx1 w' e) ∧ ev1 w e = ev1 w' e := by
    unfold nx1 ev1; rw [← hends]
    cases endsE w e with
    | false => exact ⟨h, rfl⟩
    | true => exact ⟨h.close.2, h.close.1⟩
  obtain ⟨h1, he1⟩ := h1
  have hfam : newFam (nx1 w e) e = newFam (nx1 w' e) e := by
    unfold newFam; rw [← h1.any]
    cases hb : (nx1 w e).any with
    | false => rfl
    | true => rw [(h1.last hb).1]
  have h2 : Eqv (nx2 (nx1 w e) e) (nx2 (nx1 w' e) e) ∧ (nx2 (nx1 w e) e).famMask = (nx2 (nx1 w' e) e).famMask ∧ (nx2 (nx1 w e) e).colMask = (nx2 (nx1 w' e) e).colMask ∧ (nx2 (nx1 w e) e).rank = (nx2 (nx1 w' e) e).rank := by
    unfold nx2; rw [← hfam]
    cases hb : newFam (nx1 w e) e with
    | true => exact ⟨⟨h1.s, h1.clock, h1.any, h1.opn, fun ha => ⟨(h1.last ha).1, rfl, rfl, rfl⟩, h1.ge⟩, rfl, rfl, rfl⟩
    | false =>
      have ha : (nx1 w e).any = true := by
        unfold newFam at hb
        cases hc : (nx1 w e).any with
        | true => rfl
        | false => rw [hc] at hb; simp at hb
      obtain ⟨g1, g2, g3, g4⟩ := h1.last ha
      exact ⟨h1, g2, g3, g4⟩
  obtain ⟨h2, m1, m2, m3⟩ := h2
  have hcol : newCol (nx2 (nx1 w e) e) e = newCol (nx2 (nx1 w' e) e) e := by
    unfold newCol; rw [← h2.any]
    cases hb : (nx2 (nx1 w e) e).any with
    | false => rfl
    | true => rw [(h2.last hb).1]
  have h3 : Eqv (nx3 (nx2 (nx1 w e) e) e) (nx3 (nx2 (nx1 w' e) e) e) ∧ (nx3 (nx2 (nx1 w e) e) e).famMask = (nx3 (nx2 (nx1 w' e) e) e).famMask ∧ (nx3 (nx2 (nx1 w e) e) e).colMask = (nx3 (nx2 (nx1 w' e) e) e).colMask ∧ (nx3 (nx2 (nx1 w e) e) e).rank = (nx3 (nx2 (nx1 w' e) e) e).rank := by
    unfold nx3; rw [← hcol]
    cases newCol (nx2 (nx1 w e) e) e with
    | true => exact ⟨⟨h2.s, h2.clock, h2.any, h2.opn, fun ha => ⟨(h2.last ha).1, m1, rfl, rfl⟩, h2.ge⟩, m1, rfl, rfl⟩
    | false => exact ⟨h2, m1, m2, m3⟩
  obtain ⟨h3, n1, n2, n3⟩ := h3
  unfold evN nextW
  rw [he1]
  generalize nx3 (nx2 (nx1 w e) e) e = u at *
  generalize nx3 (nx2 (nx1 w' e) e) e = u' at *
  have ho := h3.opn
  refine ⟨by congr 1; unfold ev5 nx4; simp only [n1, n2, ho], ?_⟩
  unfold nx5
  by_cases h5 : e.kind = 5
  · rw [if_pos h5, if_pos h5]
    exact ⟨h3.s, h3.clock, rfl, ho, fun _ => ⟨rfl, by simp only [nx4, n1], n2, n3⟩, fun hh => ⟨rfl, (h3.ge hh).2⟩⟩
  · rw [if_neg h5, if_neg h5]
    by_cases h4 : e.kind = 4
    · rw [if_pos h4, if_pos h4]
      exact ⟨h3.s, h3.clock, rfl, ho, fun _ => ⟨rfl, n1, by simp only [nx4, n2], n3⟩, fun hh => ⟨rfl, (h3.ge hh).2⟩⟩
    · rw [if_neg h4, if_neg h4]
      cases hb : u.opn with
      | false =>
        have hb' : u'.opn = false := by rw [← ho]; exact hb
        rw [verW_shut e (v := nx4 u e) hb, verW_shut e (v := nx4 u' e) hb']
        exact ⟨h3.s, h3.clock, rfl, rfl, fun _ => ⟨rfl, n1, n2, n3⟩, fun _ => ⟨rfl, rfl, rfl⟩⟩
      | true =>
        have hb' : u'.opn = true := by rw [← ho]; exact hb
        rw [verW_open e (v := nx4 u e) hb, verW_open e (v := nx4 u' e) hb']
        obtain ⟨_, g1, g2⟩ := h3.ge hb
        exact ⟨h3.s, h3.clock, rfl, ho, fun _ => ⟨rfl, n1, n2, n3⟩, fun _ => ⟨rfl, g1, by simp only [nx4, g2]⟩⟩
theorem Eqv.evP : ∀ {l : List Ent} {w w' : Wlk}, Eqv w w' → evP l w = evP l w'
  | [], _, _, h => h.close.1
  | e :: l, w, w', h => by rw [Rt.evP, Rt.evP, (h.next e).1, Eqv.evP (h.next e).2]
theorem evP_fresh {s : List Fml} {clock : Int} {w : Wlk} (h1 : w.any = false) (h2 : w.opn = false) (h3 : w.s = s) (h4 : w.clock = clock) (l : List Ent) : evP l w = evP l (wlk0 s clock) :=
  Eqv.evP ⟨h3, h4, h1, h2, fun h => (by rw [h1] at h; cases h), fun h => (by rw [h2] at h; cases h)⟩
structure WI (s : List Fml) (clock : Int) (w : Wlk) (A : List Ent) (es : List Ev) : Prop where
  sch : w.s = s
  clk : w.clock = clock
  emp : A = [] → w.any = false ∧ w.opn = false
  lst : ∀ A' e, A = A' ++ [e] → w.any = true ∧ w.last = e
  row : rowOK w
  ev : ∀ B, evP (A ++ B) (wlk0 s clock) = es ++ evP B w
theorem nextW_clk (w : Wlk) (e : Ent) : (nextW w e).clock = w.clock := by
  have h1 : (nx1 w e).clock = w.clock := by unfold nx1; cases endsE w e; rfl; exact (closeW_any w).2.2.2
  have h2 : (nx2 (nx1 w e) e).clock = w.clock := by unfold nx2; cases newFam (nx1 w e) e <;> exact h1
  have h3 : (nx3 (nx2 (nx1 w e) e) e).clock = w.clock := by unfold nx3; cases newCol (nx2 (nx1 w e) e) e <;> exact h2
  unfold nextW nx5
  split
  · exact h3
  · split
    · exact h3
    · unfold verW; split <;> exact h3
theorem WI.start {s : List Fml} {clock : Int} {w : Wlk} (h1 : w.any = false) (h2 : w.opn = false) (h3 : w.s = s) (h4 : w.clock = clock) : WI s clock w [] [] :=
  ⟨h3, h4, fun _ => ⟨h1, h2⟩, fun A' e h => (by simp at h), fun h => (by rw [h2] at h; cases h), fun B => (evP_fresh h1 h2 h3 h4 B).symm⟩
theorem WI.next {s : List Fml} {clock : Int} {w : Wlk} {A : List Ent} {es : List Ev} (h : WI s clock w A es) (e : Ent) : WI s clock (nextW w e) (A ++ [e]) (es ++ evN w e) where
  sch := by rw [nextW_s]; exact h.sch
  clk := by rw [nextW_clk]; exact h.clk
  emp := fun h => by simp at h
  lst := fun A' e' he => by obtain ⟨_, h2⟩ := List.append_inj' he rfl; cases h2; exact nextW_any w e
  row := nextW_row w e
  ev := fun B => by rw [List.append_assoc, List.singleton_append, h.ev, evP, List.append_assoc]
theorem WI.done {s : List Fml} {clock : Int} {w : Wlk} {A : List Ent} {es : List Ev} (h : WI s clock w A es) : evP A (wlk0 s clock) = es ++ closeV w := by
  have := h.ev []; rw [List.append_nil] at this; exact this
def SSt.pre (o : List Ent) (st : SSt) : SSt := { st with out := o ++ st.out }
theorem shown_pre (f : List Fml) (o : List Ent) : ∀ (l : List Ev) (st : SSt), l.foldl (evT (shownG f) id fun st _ _ => st) (st.pre o) = (l.foldl (evT (shownG f) id fun st _ _ => st) st).pre o := by
  intro l
  induction l with
  | nil => intro st; rfl
  | cons v l ih =>
    intro st
    rw [List.foldl_cons, List.foldl_cons, ← ih]
    congr 1
    cases v with
    | o => rfl
    | m e b => rfl
    | g d =>
      show shownG f (st.pre o) d = (shownG f st d).pre o
      have h1 : unseen f (st.pre o) d = unseen f st d := rfl
      have h2 : cnt1 (st.pre o) d = cnt1 st d := rfl
      unfold shownG
      rw [h1, h2]
      split
      · rfl
      · show (if cnt1 st d < st.n then _ else _) = _
        split
        · simp [SSt.pre]
        · rfl
theorem shown_split (f : List Fml) (l : List Ev) (st : SSt) : l.foldl (evT (shownG f) id fun st _ _ => st) st = (l.foldl (evT (shownG f) id fun st _ _ => st) { st with out := [] }).pre st.out := by
  rw [← shown_pre]; simp [SSt.pre]
structure SEq (a b : SSt) : Prop where
  t : a.t = b.t
  n : a.n = b.n
  out : a.out = b.out
  count : a.count = b.count
  last : 0 < a.count → a.last = b.last
theorem SEq.run (f : List Fml) : ∀ (l : List Ev) {a b : SSt}, SEq a b → 0 ≤ a.count → SEq (l.foldl (evT (shownG f) id fun st _ _ => st) a) (l.foldl (evT (shownG f) id fun st _ _ => st) b) := by
  intro l
  induction l with
  | nil => intro a b h _; exact h
  | cons v l ih =>
    intro a b h h0
    rw [List.foldl_cons, List.foldl_cons]
    cases v with
    | o => exact ih h h0
    | m e b => exact ih h h0
    | g d =>
      have hu : unseen f a d = unseen f b d := by unfold unseen; rw [h.t]
      have hc : cnt1 a d = cnt1 b d := by
        unfold cnt1
        rw [← h.count]
        by_cases hp : 0 < a.count
        · rw [h.last hp]
        · have : decide (0 < a.count) = false := by simpa using hp
          rw [this]; rfl
      have hc0 : 0 ≤ cnt1 a d := by unfold cnt1; split <;> omega
      have hg : SEq (shownG f a d) (shownG f b d) ∧ 0 ≤ (shownG f a d).count := by
        unfold shownG
        rw [← hu, ← hc]
        have hn := h.n
        by_cases h1 : unseen f a d = true
        · rw [if_pos h1, if_pos h1]; exact ⟨h, h0⟩
        · rw [if_neg h1, if_neg h1]
          by_cases h2 : cnt1 a d < a.n
          · rw [if_pos h2, if_pos (by omega)]
            exact ⟨⟨h.t, h.n, by simp [h.out], rfl, fun _ => rfl⟩, by show 0 ≤ cnt1 a d + 1; omega⟩
          · rw [if_neg h2, if_neg (by omega)]
            refine ⟨⟨h.t, h.n, h.out, rfl, fun hp => ?_⟩, hc0⟩
            have : 0 < cnt1 a d := hp
            refine h.last ?_
            unfold cnt1 at this; split at this <;> omega
      exact ih hg.1 hg.2
end Go.Rt
namespace Go.Proofs.Ytijhkfhflpmajaa
open Go Go.Sx Go.Rt Go.Proofs
def pushR (w : Wlk) (e : Ent) : Bool × Int :=
  if checkedE w.s e ≠ 0 then (false, checkedE w.s e)
  else if w.any = true then
    if 0 < compE w.last e then (false, 30)
    else if compE w.last e = 0 ∧ w.last = e then (false, 0)
    else if compE w.last e = 0 ∨ w.last.seq = e.seq then (false, 31)
    else (true, 0)
  else (true, 0)
theorem pushR_err {w : Wlk} {e : Ent} (h : (pushR w e).2 ≠ 0) : (pushR w e).1 = false := by
  unfold pushR at h ⊢
  repeat' split
  all_goals first | rfl | (exfalso; simp_all)
def pushW (w : Wlk) (e : Ent) : Wlk := bif (pushR w e).1 then nextW (preW w e) e else w
def pushT {P : Program} (T : Tk P) (w : Wlk) (st : T.σ) (e : Ent) : T.σ := bif (pushR w e).1 then nextT T (preW w e) (preT T w st e) e else st
def strAV {P : Program} (T : Tk P) : AV := .agg [.agg [.loc T.kw 0 0 0 []], T.recv]
structure StrOK {P : Program} (T : Tk P) (H : Heap) (n : Nat) (kf : Nat) (w : Wlk) (st : T.σ) : Prop where
  ah : Ahead T H n w st
  at' : H kf = some (.arr 0 2 [strAV T])
  lt : kf < n
  nw : kf ≠ T.kw
  nk : ¬ T.keys kf
structure AmidS {P : Program} (T : Tk P) (H : Heap) (n kf : Nat) (x : LEnt) (w : Wlk) (st : T.σ) (T' : Nat → AV) (H' : Heap) (n' : Nat) : Prop where
  t0 : T' 0 = .loc kf 0 0 0 [0]
  t3 : T' 3 = .loc n 0 0 0 []
  en : H' n = some (.arr 0 7 [lentAV x])
  le : n + 1 ≤ n'
  walk : H' T.kw = some (.arr 0 25 [walkAV T w])
  tk : T.holds st H' n'
  rest : ∀ k, k < n → k ≠ T.kw → ¬ T.keys k → H' k = H k
def freshW (w : Wlk) : Wlk := { closeW w with any := false }
theorem c_stream_fresh (T : Tk Try.prog) (ok : T.σ → Prop) (hT : TkOK T ok) (w : Wlk) (st : T.σ) (kf : Nat) (H : Heap) (n : Nat) (hs : StrOK T H n kf w st) (hok : ok st) (hwk : WOK w) :
    ACalls Try.prog 51 [.loc kf 0 0 0 [0]] H n fun res H' n' => res = .val (.tup []) ∧ Rt.Left T H n (freshW w) (closeT T w st) H' n' := by
  obtain ⟨⟨hkw, hkeys, hw0, htk0⟩, hkf0, hkfn, hkfw, hkfk⟩ := hs
  have hkf := hkf0
  simp only [strAV] at hkf
  have hkf9 : (0 : Nat) = 0 := rfl
  have hw9 : (0 : Nat) = 0 := rfl
  refine acalls_of_awp Try.func51 rfl Try.ntmps51 (congrArg Array.toList Try.results51) (by simp) ?_
  simp only [go_sem]
  refine awp_reg zs [0] fun K hK => ?_
  try simp only [go_sem, seval, hkf, hkf9, hw9]
  repeat refine peel ?_
  refine callK_useK (args' := [.loc T.kw 0 0 0 []]) Try.func64 rfl rfl rfl (c_retain_walk_close T ok hT w st H n ⟨hkw, hkeys, hw0, htk0⟩ hok hwk) ?_ ?_
  rotate_left
  · intro p H' n' h; cases h.1
  intro r H2 n2 ⟨hr2, hL⟩
  cases hr2
  have hkf9 := (hL.rest kf hkfn hkfw hkfk).trans hkf0
  simp only [strAV] at hkf9
  have hw9 := hL.walk
  simp only [walkAV, tkAV] at hw9
  try simp only [go_sem, seval, hkf, hkf9, hw9]
  repeat refine peel ?_
  refine hK _ _ _ ?_; clear hK K
  refine awp_reg1 zs [] fun K hK => ?_
  try simp only [go_sem, seval, hkf, hkf9, hw9]
  repeat refine peel ?_
  refine hK _ _ _ ?_; clear hK K
  try simp only [go_sem, seval, hkf, hkf9, hw9]
  try simp only [go_sem, seval, hkf, hkf9, hw9]
  exact left_put hL.le hL.tk hL.rest (freshW w)
end Go.Proofs.Ytijhkfhflpmajaa
namespace Go.Proofs.Ytijhkfhflpmajaa
open Go Go.Sx Go.Rt Go.Proofs
theorem c_slices_Clip (k ver len : Nat) (els : List AV) (e : Nat) (H : Heap) (n : Nat) (hH : H k = some (.arr ver e els)) (hl : len ≤ els.length) (he : e = 7) : Ret Try.prog 75 [.osl k ver 0 len] H n (.osl k ver 0 len) H n := by
  subst he
  refine acalls_of_awp Try.func75 rfl Try.ntmps75 (congrArg Array.toList Try.results75) (by simp) ?_
  simp only [go_sem]
  refine awp_reg zs [0] fun K hK => ?_
  try simp only [go_sem, seval, hH, List.drop_zero]
  repeat refine peel ?_
  refine hK _ _ _ ?_; clear hK K
  refine awp_reg zs [2] fun K hK => ?_
  try simp only [go_sem, seval, hH, List.drop_zero]
  repeat (first | (refine And.intro ?_ ?_; · first | exact ⟨rfl, by omega⟩ | (simp; omega)) | refine peel ?_)
  refine hK _ _ _ ?_; clear hK K
  refine awp_ret ?_
  try simp only [go_sem, seval, hH, List.drop_zero]
  simp
def shownN (kw : Nat) (s : SSt) : AV := .agg [.int .i64 s.t, .int .i64 s.n, .nilsl, .int .i64 s.count, entAV s.last, .loc kw 0 0 0 []]
theorem r_out (kw kt ko kf : Nat) (st : SSt) (els : List AV) (H : Heap) (n : Nat) (hkf : H kf = some (.arr 0 2 [.agg [.agg [.loc kw 0 0 0 []], .loc kt 0 0 0 []]])) (hkt : H kt = some (.arr 0 12 [shownAV kw ko st])) (hko : H ko = some (.arr st.out.length 7 els)) (hl : els.length = st.out.length) (h1 : kf ≠ kt) (h2 : ko ≠ kt) :
    Ret Try.prog 55 [.loc kf 0 0 0 []] H n (.osl ko st.out.length 0 st.out.length) (H.put kt (some (.arr 0 12 [shownN kw st]))) n := by
  have q1 : (kf = kt) = False := by simp [h1]
  have q2 : (ko = kt) = False := by simp [h2]
  simp only [shownAV] at hkt
  refine acalls_of_awp Try.func55 rfl Try.ntmps55 (congrArg Array.toList Try.results55) (by simp) ?_
  simp only [go_sem]
  refine awp_reg zs [0] fun K hK => ?_
  try simp only [go_sem, seval, hkf, hkt, q1, q2]
  repeat refine peel ?_
  refine hK _ _ _ ?_; clear hK K
  refine awp_reg zs [0, 3] fun K hK => ?_
  try simp only [go_sem, seval, hkf, hkt, q1, q2]
  repeat refine peel ?_
  refine hK _ _ _ ?_; clear hK K
  refine awp_reg zs [3] fun K hK => ?_
  try simp only [go_sem, seval, hkf, hkt, q1, q2]
  repeat refine peel ?_
  refine hK _ _ _ ?_; clear hK K
  refine awp_reg zs [2] fun K hK => ?_
  try simp only [go_sem, seval, hkf, hkt, q1, q2]
  repeat refine peel ?_
  refine callK_use Try.func75 rfl rfl rfl ((c_slices_Clip ko st.out.length st.out.length els 7 _ _ ((Heap.put_ne _ _ h2).trans hko) (by omega) rfl)) ?_
  try simp only [go_sem, seval, hkf, hkt, q1, q2]
  repeat refine peel ?_
  refine hK _ _ _ ?_; clear hK K
  refine awp_ret ?_
  try simp only [go_sem, seval, hkf, hkt, q1, q2]
  exact rfl
def RPost (kw kt ko lo : Nat) (h : KSep kw kt ko lo) (kf : Nat) (w : Wlk) (st : SSt) (e : Ent) (H : Heap) (n : Nat) (res : ARes) (H' : Heap) (n' : Nat) : Prop :=
  ((pushR w e).2 ≠ 0 → res = .val (.tup [.nilsl, .int .i64 (pushR w e).2]) ∧ Rt.Left (shownTk kw kt ko lo h) H n w st H' n') ∧
  ((pushR w e).2 = 0 → ∃ (ko' lo' : Nat) (h' : KSep kw kt ko' lo') (xs : List LEnt), res = .val (.tup [.osl ko xs.length 0 xs.length, .int .i64 0]) ∧ n ≤ ko' ∧ n ≤ lo' ∧ xs.map (·.e) = (pushT (shownTk kw kt ko lo h) w st e : SSt).out ∧ H' ko = some (.arr xs.length 7 (xs.map lentAV)) ∧ MineL H' lo n' xs ∧ lo ≤ n' ∧ n ≤ n' ∧ ko' ∉ xs.flatMap LEnt.ks ∧
    Ahead (shownTk kw kt ko' lo' h') H' n' (pushW w e) { (pushT (shownTk kw kt ko lo h) w st e : SSt) with out := [] } ∧ ∀ k, k < n → k ≠ kw → k ≠ kt → k ≠ ko → H' k = H k)
theorem shown_strAV (kw kt ko lo : Nat) (h : KSep kw kt ko lo) : strAV (shownTk kw kt ko lo h) = .agg [.agg [.loc kw 0 0 0 []], .loc kt 0 0 0 []] := rfl
def REnd (kw kt ko lo : Nat) (h : KSep kw kt ko lo) (kf : Nat) (w : Wlk) (st : SSt) (H : Heap) (n : Nat) (res : ARes) (H' : Heap) (n' : Nat) : Prop :=
  ∃ (ko' lo' : Nat) (h' : KSep kw kt ko' lo') (xs : List LEnt), res = .val (.osl ko xs.length 0 xs.length) ∧ n ≤ ko' ∧ n ≤ lo' ∧ xs.map (·.e) = (closeT (shownTk kw kt ko lo h) w st : SSt).out ∧ H' ko = some (.arr xs.length 7 (xs.map lentAV)) ∧ MineL H' lo n' xs ∧ lo ≤ n' ∧ n ≤ n' ∧ ko' ∉ xs.flatMap LEnt.ks ∧
    Ahead (shownTk kw kt ko' lo' h') H' n' (freshW w) { (closeT (shownTk kw kt ko lo h) w st : SSt) with out := [], count := 0 } ∧ ∀ k, k < n → k ≠ kw → k ≠ kt → k ≠ ko → H' k = H k
set_option maxHeartbeats 1600000 in
theorem r_End0 (kw kt ko lo : Nat) (h : KSep kw kt ko lo) (w : Wlk) (st : SSt) (kf : Nat) (H : Heap) (n : Nat) (hs : StrOK (shownTk kw kt ko lo h) H n kf w st) (hok : SSt.ok st) (hwk : WOK w) :
    ACalls Try.prog 34 [.loc kf 0 0 0 []] H n fun res H' n' =>
      ∃ (H2 : Heap), res = .val (.osl ko (closeT (shownTk kw kt ko lo h) w st : SSt).out.length 0 (closeT (shownTk kw kt ko lo h) w st : SSt).out.length) ∧ Rt.Left (shownTk kw kt ko lo h) H n (freshW w) (closeT (shownTk kw kt ko lo h) w st) H2 n' ∧ H' = H2.put kt (some (.arr 0 12 [shownN kw { (closeT (shownTk kw kt ko lo h) w st : SSt) with count := 0 }])) := by
  have hkfn := hs.lt
  have hkfw : kf ≠ kw := hs.nw
  have hkfk := hs.nk
  have hkf0 := hs.at'
  have hkft : kf ≠ kt := fun e => hkfk (.inl e)
  have hkf9 : (0 : Nat) = 0 := rfl
  have hk9 : (0 : Nat) = 0 := rfl
  refine acalls_of_awp Try.func34 rfl Try.ntmps34 (congrArg Array.toList Try.results34) (by simp) ?_
  simp only [go_sem]
  refine awp_reg zs [0] fun K hK => ?_
  try simp only [go_sem, seval, hkf9, hk9]
  repeat refine peel ?_
  refine hK _ _ _ ?_; clear hK K
  refine awp_reg zs [0] fun K hK => ?_
  try simp only [go_sem, seval, hkf9, hk9]
  repeat refine peel ?_
  refine callK_useK (args' := [.loc kf 0 0 0 [0]]) Try.func51 rfl rfl rfl (c_stream_fresh (shownTk kw kt ko lo h) SSt.ok (shown_tkOK kw kt ko lo h) w st kf H n hs hok hwk) ?_ ?_
  rotate_left
  · intro p H' n' h; cases h.1
  intro r H2 n2 ⟨hr2, hL⟩
  cases hr2
  obtain ⟨hlo2, htk2, xs, hxe, hko2, hm2⟩ := hL.tk
  have hkf9 := (hL.rest kf hkfn hkfw hkfk).trans hkf0
  simp only [shown_strAV] at hkf9
  have hk9 := htk2
  simp only [shownAV] at hk9
  try simp only [go_sem, seval, hkf9, hk9]
  repeat refine peel ?_
  refine hK _ _ _ ?_; clear hK K
  refine awp_reg zs [0] fun K hK => ?_
  try simp only [go_sem, seval, hkf9, hk9]
  repeat refine peel ?_
  refine hK _ _ _ ?_; clear hK K
  refine awp_reg zs [2] fun K hK => ?_
  try simp only [go_sem, seval, hkf9, hk9]
  repeat refine peel ?_
  refine callK_use Try.func55 rfl rfl rfl ((r_out kw kt ko kf { (closeT (shownTk kw kt ko lo h) w st : SSt) with count := 0 } (xs.map lentAV) _ n2 ((Heap.put_ne _ _ hkft).trans hkf9) (Heap.put_same _ _ _) ((Heap.put_ne _ _ (Ne.symm h.c)).trans (by rw [hko2, ← hxe]; simp)) (by show _ = (closeT (shownTk kw kt ko lo h) w st : SSt).out.length; rw [← hxe]; simp) hkft (Ne.symm h.c))) ?_
  try simp only [go_sem, seval, hkf9, hk9]
  repeat refine peel ?_
  refine hK _ _ _ ?_; clear hK K
  refine awp_ret ?_
  try simp only [go_sem, seval, hkf9, hk9]
  first | exact ⟨H2, hL, by simp [put2]⟩ | exact ⟨H2, hL, rfl⟩
theorem r_End (kw kt ko lo : Nat) (h : KSep kw kt ko lo) (w : Wlk) (st : SSt) (kf : Nat) (H : Heap) (n : Nat) (hs : StrOK (shownTk kw kt ko lo h) H n kf w st) (hok : SSt.ok st) (hwk : WOK w) :
    ACalls Try.prog 34 [.loc kf 0 0 0 []] H n (REnd kw kt ko lo h kf w st H n) := by
  refine (r_End0 kw kt ko lo h w st kf H n hs hok hwk).post_adopt fun res H1 n1 ⟨H2, hr, hL, hH⟩ => ?_
  subst hH
  right
  obtain ⟨hlo2, htk2, xs, hxe, hko2, hm2⟩ := hL.tk
  have hkw : kw < n := hs.ah.kw
  have hkt : kt < n := hs.ah.keys kt (.inl rfl)
  have hko : ko < n := hs.ah.keys ko (.inr rfl)
  have hle := hL.le
  have hc := h.c
  have ha := h.a
  have hb := h.b
  have hd := h.d
  have he := h.e
  have hf := h.f
  generalize hst2 : (closeT (shownTk kw kt ko lo h) w st : SSt) = st2 at *
  have hG : ∀ k, k ≠ kt → k ≠ n1 → ∀ o o' o2, (((H2.put kt o).put n1 o').put kt o2) k = H2 k := fun k g1 g2 o o' o2 => (Heap.put_ne _ _ g1).trans ((Heap.put_ne _ _ g2).trans (Heap.put_ne _ _ g1))
  refine ⟨kt, 0, 12, [shownN kw { st2 with count := 0 }], [shownAV kw n1 { st2 with out := [], count := 0 }], 7, Heap.put_same _ _ _, ⟨Adp.agg ⟨.refl _ _, .refl _ _, Adp.nilsl _, .refl _ _, .refl _ _, .refl _ _, trivial⟩, trivial⟩, ?_⟩
  refine ⟨n1, n1 + 1, ⟨by omega, by omega, by omega, by omega, by omega, by omega⟩, xs, ?_, hle, by omega, by rw [hst2]; exact hxe, ?_, ?_, by omega, by omega, fun hin => by have := (hm2.in' hin).2; omega, ⟨?_, fun k hk => ?_, ?_, ?_⟩, fun k hk g1 g2 g3 => ?_⟩
  · have hl : st2.out.length = xs.length := by rw [← hxe]; simp
    rw [hr, hl]
  · rw [hG ko (Ne.symm hc) (by omega)]; exact hko2
  · exact hm2.mono (fun k g1 g2 => hG k (by omega) (by omega) _ _ _) (by omega)
  · show kw < n1 + 1; omega
  · rcases hk with rfl | rfl <;> omega
  · show _ = _
    rw [show (shownTk kw kt n1 (n1 + 1) _).kw = kw from rfl, hG kw ha (by omega)]; exact hL.walk
  · rw [hst2]
    exact ⟨Nat.le_refl _, Heap.put_same _ _ _, [], rfl, (Heap.put_ne _ _ (by omega)).trans (Heap.put_same _ _ _), MineL.nil _ _ _⟩
  · rw [hG k g2 (by omega)]; exact hL.rest k hk g1 (fun hh => by rcases hh with hh | hh; exact g2 hh; exact g3 hh)
theorem c_retain_schema (s : List Fml) (hs : s.length ≤ 2000000) (H : Heap) (n : Nat) : Ret Try.prog 50 [schAV s] H n (schAV s) H n := by
  refine Ret.fin ?_
  refine acalls_of_awp Try.func50 rfl Try.ntmps50 (congrArg Array.toList Try.results50) (by simp) ?_
  simp only [go_sem]
  refine awp_rq zs [1, 2] ?_
  refine awp_reg zs [2] fun K hK => ?_
  try simp only [go_sem, seval]
  repeat (first | (refine And.intro ?_ ?_; · first | exact ⟨trivial, .inr rfl, by simp; omega, by simp; omega⟩ | (simp; omega)) | refine peel ?_)
  refine hK _ _ _ ?_; clear hK K
  refine awp_ret ?_
  try simp only [go_sem, seval]
  refine ⟨_, rfl, ?_, .kl (kl_sch s n)⟩
  intro k hk; have h0 : k ≠ n := by omega
  have h1 : ∀ j, k ≠ n + j := fun j => by omega
  simp [Heap.put, h0, h1]
def RNew (s : List Fml) (clock t vn : Int) (H : Heap) (n : Nat) (res : ARes) (H' : Heap) (n' : Nat) : Prop :=
  n ≤ n' ∧ (∀ k, k < n → H' k = H k) ∧ ((boundsE s clock [t] vn ≠ 0 → res = .val (.tup [.nilp, .int .i64 (boundsE s clock [t] vn)])) ∧
    (boundsE s clock [t] vn = 0 → ∃ (kf kw kt ko lo : Nat) (h : KSep kw kt ko lo), res = .val (.tup [.loc kf 0 0 0 [], .int .i64 0]) ∧ n ≤ kf ∧ n ≤ kw ∧ n ≤ kt ∧ n ≤ ko ∧ kf ≠ ko ∧ StrOK (shownTk kw kt ko lo h) H' n' kf (wlk0 s clock) (sst0 t vn)))
theorem c_retain_NewReader (s : List Fml) (hs : s.length ≤ 2000000) (clock t vn : Int) (H : Heap) (n : Nat) :
    ACalls Try.prog 30 [schAV s, .int .i64 clock, .int .i64 t, .int .i64 vn] H n (RNew s clock t vn H n) := by
  refine acalls_of_awp Try.func30 rfl Try.ntmps30 (congrArg Array.toList Try.results30) (by simp) ?_
  simp only [go_sem]
  refine awp_rq zs [1, 2, 3, 4] ?_
  refine awp_seq_k fun K1 hK1 => ?_
  refine awp_reg zs [1, 2, 3, 4, 10] fun K hK => ?_
  try simp only [go_sem, seval]
  repeat (first | (refine And.intro ?_ ?_; · first | exact ⟨rfl, by simp [AV.sz, AV.memOK]⟩) | refine peel ?_)
  refine callK_use Try.func49 rfl rfl rfl ((c_retain_bounds s clock [t] vn (by simp) _ _)) ?_
  try simp only [go_sem, seval]
  repeat (first | (refine And.intro ?_ ?_; · first | exact ⟨rfl, by simp [AV.sz, AV.memOK]⟩) | refine peel ?_)
  refine hK _ _ _ ?_; clear hK K
  refine awp_rq zs [1, 2, 3, 4, 10, 20] ?_
  refine awp_cnd (fun hb => ?_) (fun hb => ?_)
  ·skip
   have hne : boundsE s clock [t] vn ≠ 0 := by simpa using hb
   refine awp_rq zs [8, 9] ?_
   refine awp_ret ?_
   try simp only [go_sem, seval]
   first
   | exact ⟨by omega, fun k hk => Heap.put_ne _ _ (by omega), fun _ => rfl, fun h => absurd h hne⟩
   | (refine ⟨by omega, fun k hk => (Heap.put_ne _ _ (by omega)).trans ((hlow k (by omega)).trans (Heap.put_ne _ _ (by omega))), fun h => absurd hne h, fun _ => ⟨n2, kw, kt, ko, lo, hh, rfl, by omega, by omega, by omega, by omega, ?_, ?_⟩⟩
      · have := hah.keys ko (.inr rfl); omega
      · have hk1 := hah.kw
        have hk2 := hah.keys
        exact ⟨⟨Nat.lt_succ_of_lt hk1, fun k hk => Nat.lt_succ_of_lt (hk2 k hk), (Heap.put_ne _ _ (Nat.ne_of_lt hk1)).trans hah.walk, (shownTk kw kt ko lo hh).ext _ _ _ _ _ (Nat.le_succ _) (fun k hk _ => Heap.put_ne _ _ (Nat.ne_of_lt hk)) hah.tk⟩, Heap.put_same _ _ _, Nat.lt_succ_self _, fun e => by rw [e] at hk1; exact absurd hk1 (Nat.lt_irrefl _), fun hk => absurd (hk2 _ hk) (Nat.lt_irrefl _)⟩)
  ·skip
   have hne : boundsE s clock [t] vn = 0 := by simpa using hb
   refine awp_skip ?_
   try simp only [go_sem, seval]
   refine hK1 _ _ _ ?_
   first | clear hK1 K1 | skip
   refine awp_reg zs [11, 12] fun K hK => ?_
   try simp only [go_sem, seval]
   repeat refine peel ?_
   refine callK_use Try.func50 rfl rfl rfl ((c_retain_schema s hs _ _)) ?_
   try simp only [go_sem, seval]
   repeat refine peel ?_
   refine callK_useK (args' := [schAV s, .int .i64 clock, .int .i64 t, .int .i64 vn]) Try.func47 rfl rfl rfl (c_retain_showing s clock t vn _ (n + 1)) ?_ ?_
   rotate_left
   · intro p H' n' h; obtain ⟨kw, kt, ko, lo, hh, hres, _⟩ := h; cases hres
   rintro r H2 n2 ⟨kw, kt, ko, lo, hh, hres, hkw, hkt, hko, hn2, hlo2, hah, hlow⟩
   cases hres
   try simp only [go_sem, seval]
   repeat refine peel ?_
   refine hK _ _ _ ?_; clear hK K
   refine awp_rq zs [8, 9] ?_
   refine awp_ret ?_
   try simp only [go_sem, seval]
   first
   | exact ⟨by omega, fun k hk => Heap.put_ne _ _ (by omega), fun _ => rfl, fun h => absurd h hne⟩
   | (refine ⟨by omega, fun k hk => (Heap.put_ne _ _ (by omega)).trans ((hlow k (by omega)).trans (Heap.put_ne _ _ (by omega))), fun h => absurd hne h, fun _ => ⟨n2, kw, kt, ko, lo, hh, rfl, by omega, by omega, by omega, by omega, ?_, ?_⟩⟩
      · have := hah.keys ko (.inr rfl); omega
      · have hk1 := hah.kw
        have hk2 := hah.keys
        exact ⟨⟨Nat.lt_succ_of_lt hk1, fun k hk => Nat.lt_succ_of_lt (hk2 k hk), (Heap.put_ne _ _ (Nat.ne_of_lt hk1)).trans hah.walk, (shownTk kw kt ko lo hh).ext _ _ _ _ _ (Nat.le_succ _) (fun k hk _ => Heap.put_ne _ _ (Nat.ne_of_lt hk)) hah.tk⟩, Heap.put_same _ _ _, Nat.lt_succ_self _, fun e => by rw [e] at hk1; exact absurd hk1 (Nat.lt_irrefl _), fun hk => absurd (hk2 _ hk) (Nat.lt_irrefl _)⟩)
end Go.Proofs.Ytijhkfhflpmajaa
namespace Go.Proofs.Ytijhkfhflpmajaa
open Go Go.Sx Go.Rt Go.Proofs
def keptN (kw : Nat) (s : KSt) : AV := .agg [.bool s.major, .int .i64 s.low, .nilsl, .agg [.int .i64 s.older, .int .i64 s.masked, .int .i64 s.expired, .int .i64 s.above, .int .i64 s.marks], .loc kw 0 0 0 []]
theorem f_out (kw kt ko kf : Nat) (st : KSt) (els : List AV) (H : Heap) (n : Nat) (hkf : H kf = some (.arr 0 2 [.agg [.agg [.loc kw 0 0 0 []], .loc kt 0 0 0 []]])) (hkt : H kt = some (.arr 0 9 [keptAV kw ko st])) (hko : H ko = some (.arr st.out.length 7 els)) (hl : els.length = st.out.length) (h1 : kf ≠ kt) (h2 : ko ≠ kt) :
    Ret Try.prog 52 [.loc kf 0 0 0 []] H n (.osl ko st.out.length 0 st.out.length) (H.put kt (some (.arr 0 9 [keptN kw st]))) n := by
  have q1 : (kf = kt) = False := by simp [h1]
  have q2 : (ko = kt) = False := by simp [h2]
  simp only [keptAV] at hkt
  refine acalls_of_awp Try.func52 rfl Try.ntmps52 (congrArg Array.toList Try.results52) (by simp) ?_
  simp only [go_sem]
  refine awp_reg zs [0] fun K hK => ?_
  try simp only [go_sem, seval, hkf, hkt, q1, q2]
  repeat refine peel ?_
  refine hK _ _ _ ?_; clear hK K
  refine awp_reg zs [0, 3] fun K hK => ?_
  try simp only [go_sem, seval, hkf, hkt, q1, q2]
  repeat refine peel ?_
  refine hK _ _ _ ?_; clear hK K
  refine awp_reg zs [3] fun K hK => ?_
  try simp only [go_sem, seval, hkf, hkt, q1, q2]
  repeat refine peel ?_
  refine hK _ _ _ ?_; clear hK K
  refine awp_reg zs [2] fun K hK => ?_
  try simp only [go_sem, seval, hkf, hkt, q1, q2]
  repeat refine peel ?_
  refine callK_use Try.func75 rfl rfl rfl ((c_slices_Clip ko st.out.length st.out.length els 7 _ _ ((Heap.put_ne _ _ h2).trans hko) (by omega) rfl)) ?_
  try simp only [go_sem, seval, hkf, hkt, q1, q2]
  repeat refine peel ?_
  refine hK _ _ _ ?_; clear hK K
  refine awp_ret ?_
  try simp only [go_sem, seval, hkf, hkt, q1, q2]
  exact rfl
def pushF (kw kt ko lo : Nat) (h : KSep kw kt ko lo) (w : Wlk) (st : KSt) (e : Ent) : KSt := bif (pushR w e).1 then pushT (keptTk kw kt ko lo h) w st e else keptO st
theorem kept_oldL {kw kt ko lo : Nat} {h : KSep kw kt ko lo} {w' : Wlk} {st : KSt} {H H2 : Heap} {n n2 : Nat} (hL : Rt.Left (keptTk kw kt ko lo h) H n w' st H2 n2) : Rt.Left (keptTk kw kt ko lo h) H n w' (keptO st) (H2.put kt (some (.arr 0 9 [keptAV kw ko (keptO st)]))) n2 := by
  obtain ⟨a, b, ⟨c1, c2, c3⟩, d⟩ := hL
  exact ⟨a, (Heap.put_ne _ _ h.a).trans b, ⟨c1, Heap.put_same _ _ _, c3.mono (Heap.put_ne _ _ (Ne.symm h.c)) (fun k h1 h2 => Heap.put_ne _ _ (by have := h.e; omega)) (Nat.le_refl _)⟩, fun k g1 g2 g3 => (Heap.put_ne _ _ (fun e => g3 (.inl e))).trans (d k g1 g2 g3)⟩
def FPost (kw kt ko lo : Nat) (h : KSep kw kt ko lo) (kf : Nat) (w : Wlk) (st : KSt) (e : Ent) (H : Heap) (n : Nat) (res : ARes) (H' : Heap) (n' : Nat) : Prop :=
  ((pushR w e).2 ≠ 0 → res = .val (.tup [.nilsl, .int .i64 (pushR w e).2]) ∧ Rt.Left (keptTk kw kt ko lo h) H n w st H' n') ∧
  ((pushR w e).2 = 0 → ∃ (ko' lo' : Nat) (h' : KSep kw kt ko' lo') (xs : List LEnt), res = .val (.tup [.osl ko xs.length 0 xs.length, .int .i64 0]) ∧ n ≤ ko' ∧ n ≤ lo' ∧ xs.map (·.e) = (pushF kw kt ko lo h w st e).out ∧ H' ko = some (.arr xs.length 7 (xs.map lentAV)) ∧ MineL H' lo n' xs ∧ lo ≤ n' ∧ n ≤ n' ∧ ko' ∉ xs.flatMap LEnt.ks ∧
    Ahead (keptTk kw kt ko' lo' h') H' n' (pushW w e) { pushF kw kt ko lo h w st e with out := [] } ∧ ∀ k, k < n → k ≠ kw → k ≠ kt → k ≠ ko → H' k = H k)
theorem kept_strAV (kw kt ko lo : Nat) (h : KSep kw kt ko lo) : strAV (keptTk kw kt ko lo h) = .agg [.agg [.loc kw 0 0 0 []], .loc kt 0 0 0 []] := rfl
def FEnd (kw kt ko lo : Nat) (h : KSep kw kt ko lo) (kf : Nat) (w : Wlk) (st : KSt) (H : Heap) (n : Nat) (res : ARes) (H' : Heap) (n' : Nat) : Prop :=
  ∃ (ko' lo' : Nat) (h' : KSep kw kt ko' lo') (xs : List LEnt), res = .val (.osl ko xs.length 0 xs.length) ∧ n ≤ ko' ∧ n ≤ lo' ∧ xs.map (·.e) = (closeT (keptTk kw kt ko lo h) w st : KSt).out ∧ H' ko = some (.arr xs.length 7 (xs.map lentAV)) ∧ MineL H' lo n' xs ∧ lo ≤ n' ∧ n ≤ n' ∧ ko' ∉ xs.flatMap LEnt.ks ∧
    Ahead (keptTk kw kt ko' lo' h') H' n' (freshW w) { (closeT (keptTk kw kt ko lo h) w st : KSt) with out := [] } ∧ ∀ k, k < n → k ≠ kw → k ≠ kt → k ≠ ko → H' k = H k
set_option maxHeartbeats 1600000 in
theorem f_End0 (kw kt ko lo : Nat) (h : KSep kw kt ko lo) (w : Wlk) (st : KSt) (kf : Nat) (H : Heap) (n : Nat) (hs : StrOK (keptTk kw kt ko lo h) H n kf w st) (hok : KSt.ok st) (hwk : WOK w) :
    ACalls Try.prog 31 [.loc kf 0 0 0 []] H n fun res H' n' =>
      ∃ (H2 : Heap), res = .val (.osl ko (closeT (keptTk kw kt ko lo h) w st : KSt).out.length 0 (closeT (keptTk kw kt ko lo h) w st : KSt).out.length) ∧ Rt.Left (keptTk kw kt ko lo h) H n (freshW w) (closeT (keptTk kw kt ko lo h) w st) H2 n' ∧ H' = H2.put kt (some (.arr 0 9 [keptN kw (closeT (keptTk kw kt ko lo h) w st : KSt)])) := by
  have hkfn := hs.lt
  have hkfw : kf ≠ kw := hs.nw
  have hkfk := hs.nk
  have hkf0 := hs.at'
  have hkft : kf ≠ kt := fun e => hkfk (.inl e)
  have hkf9 : (0 : Nat) = 0 := rfl
  have hk9 : (0 : Nat) = 0 := rfl
  refine acalls_of_awp Try.func31 rfl Try.ntmps31 (congrArg Array.toList Try.results31) (by simp) ?_
  simp only [go_sem]
  refine awp_reg zs [0] fun K hK => ?_
  try simp only [go_sem, seval, hkf9, hk9]
  repeat refine peel ?_
  refine hK _ _ _ ?_; clear hK K
  refine awp_reg zs [0] fun K hK => ?_
  try simp only [go_sem, seval, hkf9, hk9]
  repeat refine peel ?_
  refine callK_useK (args' := [.loc kf 0 0 0 [0]]) Try.func51 rfl rfl rfl (c_stream_fresh (keptTk kw kt ko lo h) KSt.ok (kept_tkOK kw kt ko lo h) w st kf H n hs hok hwk) ?_ ?_
  rotate_left
  · intro p H' n' h; cases h.1
  intro r H2 n2 ⟨hr2, hL⟩
  cases hr2
  obtain ⟨hlo2, htk2, xs, hxe, hko2, hm2⟩ := hL.tk
  have hkf9 := (hL.rest kf hkfn hkfw hkfk).trans hkf0
  simp only [kept_strAV] at hkf9
  have hk9 := htk2
  simp only [keptAV] at hk9
  try simp only [go_sem, seval, hkf9, hk9]
  repeat refine peel ?_
  refine hK _ _ _ ?_; clear hK K
  refine awp_reg zs [2] fun K hK => ?_
  try simp only [go_sem, seval, hkf9, hk9]
  repeat refine peel ?_
  refine callK_use Try.func52 rfl rfl rfl ((f_out kw kt ko kf (closeT (keptTk kw kt ko lo h) w st : KSt) (xs.map lentAV) _ n2 ((hL.rest kf hkfn hkfw hkfk).trans hkf0) htk2 (by rw [hko2, ← hxe]; simp) (by rw [← hxe]; simp) hkft (Ne.symm h.c))) ?_
  try simp only [go_sem, seval, hkf9, hk9]
  repeat refine peel ?_
  refine hK _ _ _ ?_; clear hK K
  refine awp_ret ?_
  try simp only [go_sem, seval, hkf9, hk9]
  first | exact ⟨H2, hL, by simp [put2]⟩ | exact ⟨H2, hL, rfl⟩
theorem f_End (kw kt ko lo : Nat) (h : KSep kw kt ko lo) (w : Wlk) (st : KSt) (kf : Nat) (H : Heap) (n : Nat) (hs : StrOK (keptTk kw kt ko lo h) H n kf w st) (hok : KSt.ok st) (hwk : WOK w) :
    ACalls Try.prog 31 [.loc kf 0 0 0 []] H n (FEnd kw kt ko lo h kf w st H n) := by
  refine (f_End0 kw kt ko lo h w st kf H n hs hok hwk).post_adopt fun res H1 n1 ⟨H2, hr, hL, hH⟩ => ?_
  subst hH
  right
  obtain ⟨hlo2, htk2, xs, hxe, hko2, hm2⟩ := hL.tk
  have hkw : kw < n := hs.ah.kw
  have hkt : kt < n := hs.ah.keys kt (.inl rfl)
  have hko : ko < n := hs.ah.keys ko (.inr rfl)
  have hle := hL.le
  have hc := h.c
  have ha := h.a
  have hb := h.b
  have hd := h.d
  have he := h.e
  have hf := h.f
  generalize hst2 : (closeT (keptTk kw kt ko lo h) w st : KSt) = st2 at *
  have hG : ∀ k, k ≠ kt → k ≠ n1 → ∀ o o' o2, (((H2.put kt o).put n1 o').put kt o2) k = H2 k := fun k g1 g2 o o' o2 => (Heap.put_ne _ _ g1).trans ((Heap.put_ne _ _ g2).trans (Heap.put_ne _ _ g1))
  refine ⟨kt, 0, 9, [keptN kw st2], [keptAV kw n1 { st2 with out := [] }], 7, Heap.put_same _ _ _, ⟨Adp.agg ⟨.refl _ _, .refl _ _, Adp.nilsl _, .refl _ _, .refl _ _, trivial⟩, trivial⟩, ?_⟩
  refine ⟨n1, n1 + 1, ⟨by omega, by omega, by omega, by omega, by omega, by omega⟩, xs, ?_, hle, by omega, by rw [hst2]; exact hxe, ?_, ?_, by omega, by omega, fun hin => by have := (hm2.in' hin).2; omega, ⟨?_, fun k hk => ?_, ?_, ?_⟩, fun k hk g1 g2 g3 => ?_⟩
  · have hl : st2.out.length = xs.length := by rw [← hxe]; simp
    rw [hr, hl]
  · rw [hG ko (Ne.symm hc) (by omega)]; exact hko2
  · exact hm2.mono (fun k g1 g2 => hG k (by omega) (by omega) _ _ _) (by omega)
  · show kw < n1 + 1; omega
  · rcases hk with rfl | rfl <;> omega
  · show _ = _
    rw [show (keptTk kw kt n1 (n1 + 1) _).kw = kw from rfl, hG kw ha (by omega)]; exact hL.walk
  · rw [hst2]
    exact ⟨Nat.le_refl _, Heap.put_same _ _ _, [], rfl, (Heap.put_ne _ _ (by omega)).trans (Heap.put_same _ _ _), MineL.nil _ _ _⟩
  · rw [hG k g2 (by omega)]; exact hL.rest k hk g1 (fun hh => by rcases hh with hh | hh; exact g2 hh; exact g3 hh)
def FNew (s : List Fml) (clock low : Int) (mj : Bool) (H : Heap) (n : Nat) (res : ARes) (H' : Heap) (n' : Nat) : Prop :=
  n ≤ n' ∧ (∀ k, k < n → H' k = H k) ∧ ((boundsE s clock [low] 1 ≠ 0 → res = .val (.tup [.nilp, .int .i64 (boundsE s clock [low] 1)])) ∧
    (boundsE s clock [low] 1 = 0 → ∃ (kf kw kt ko lo : Nat) (h : KSep kw kt ko lo), res = .val (.tup [.loc kf 0 0 0 [], .int .i64 0]) ∧ n ≤ kf ∧ n ≤ kw ∧ n ≤ kt ∧ n ≤ ko ∧ kf ≠ ko ∧ StrOK (keptTk kw kt ko lo h) H' n' kf (wlk0 s clock) (kst0 mj low)))
theorem c_retain_NewFilter (s : List Fml) (hs : s.length ≤ 2000000) (clock low : Int) (mj : Bool) (H : Heap) (n : Nat) :
    ACalls Try.prog 29 [schAV s, .int .i64 clock, .bool mj, .int .i64 low] H n (FNew s clock low mj H n) := by
  refine acalls_of_awp Try.func29 rfl Try.ntmps29 (congrArg Array.toList Try.results29) (by simp) ?_
  simp only [go_sem]
  refine awp_rq zs [1, 2, 3, 4] ?_
  refine awp_seq_k fun K1 hK1 => ?_
  refine awp_reg zs [1, 2, 3, 4, 10] fun K hK => ?_
  try simp only [go_sem, seval]
  repeat (first | (refine And.intro ?_ ?_; · first | exact ⟨rfl, by simp [AV.sz, AV.memOK]⟩) | refine peel ?_)
  refine callK_use Try.func49 rfl rfl rfl ((c_retain_bounds s clock [low] 1 (by simp) _ _)) ?_
  try simp only [go_sem, seval]
  repeat (first | (refine And.intro ?_ ?_; · first | exact ⟨rfl, by simp [AV.sz, AV.memOK]⟩) | refine peel ?_)
  refine hK _ _ _ ?_; clear hK K
  refine awp_rq zs [1, 2, 3, 4, 10, 19] ?_
  refine awp_cnd (fun hb => ?_) (fun hb => ?_)
  ·skip
   have hne : boundsE s clock [low] 1 ≠ 0 := by simpa using hb
   refine awp_rq zs [8, 9] ?_
   refine awp_ret ?_
   try simp only [go_sem, seval]
   first
   | exact ⟨by omega, fun k hk => Heap.put_ne _ _ (by omega), fun _ => rfl, fun h => absurd h hne⟩
   | (refine ⟨by omega, fun k hk => (Heap.put_ne _ _ (by omega)).trans ((hlow k (by omega)).trans (Heap.put_ne _ _ (by omega))), fun h => absurd hne h, fun _ => ⟨n2, kw, kt, ko, lo, hh, rfl, by omega, by omega, by omega, by omega, ?_, ?_⟩⟩
      · have := hah.keys ko (.inr rfl); omega
      · have hk1 := hah.kw
        have hk2 := hah.keys
        exact ⟨⟨Nat.lt_succ_of_lt hk1, fun k hk => Nat.lt_succ_of_lt (hk2 k hk), (Heap.put_ne _ _ (Nat.ne_of_lt hk1)).trans hah.walk, (keptTk kw kt ko lo hh).ext _ _ _ _ _ (Nat.le_succ _) (fun k hk _ => Heap.put_ne _ _ (Nat.ne_of_lt hk)) hah.tk⟩, Heap.put_same _ _ _, Nat.lt_succ_self _, fun e => by rw [e] at hk1; exact absurd hk1 (Nat.lt_irrefl _), fun hk => absurd (hk2 _ hk) (Nat.lt_irrefl _)⟩)
  ·skip
   have hne : boundsE s clock [low] 1 = 0 := by simpa using hb
   refine awp_skip ?_
   try simp only [go_sem, seval]
   refine hK1 _ _ _ ?_
   first | clear hK1 K1 | skip
   refine awp_reg zs [11, 12] fun K hK => ?_
   try simp only [go_sem, seval]
   repeat refine peel ?_
   refine callK_use Try.func50 rfl rfl rfl ((c_retain_schema s hs _ _)) ?_
   try simp only [go_sem, seval]
   repeat refine peel ?_
   refine callK_useK (args' := [schAV s, .int .i64 clock, .bool mj, .int .i64 low]) Try.func43 rfl rfl rfl (c_retain_keeping s clock low mj _ (n + 1)) ?_ ?_
   rotate_left
   · intro p H' n' h; obtain ⟨kw, kt, ko, lo, hh, hres, _⟩ := h; cases hres
   rintro r H2 n2 ⟨kw, kt, ko, lo, hh, hres, hkw, hkt, hko, hn2, hlo2, hah, hlow⟩
   cases hres
   try simp only [go_sem, seval]
   repeat refine peel ?_
   refine hK _ _ _ ?_; clear hK K
   refine awp_rq zs [8, 9] ?_
   refine awp_ret ?_
   try simp only [go_sem, seval]
   first
   | exact ⟨by omega, fun k hk => Heap.put_ne _ _ (by omega), fun _ => rfl, fun h => absurd h hne⟩
   | (refine ⟨by omega, fun k hk => (Heap.put_ne _ _ (by omega)).trans ((hlow k (by omega)).trans (Heap.put_ne _ _ (by omega))), fun h => absurd hne h, fun _ => ⟨n2, kw, kt, ko, lo, hh, rfl, by omega, by omega, by omega, by omega, ?_, ?_⟩⟩
      · have := hah.keys ko (.inr rfl); omega
      · have hk1 := hah.kw
        have hk2 := hah.keys
        exact ⟨⟨Nat.lt_succ_of_lt hk1, fun k hk => Nat.lt_succ_of_lt (hk2 k hk), (Heap.put_ne _ _ (Nat.ne_of_lt hk1)).trans hah.walk, (keptTk kw kt ko lo hh).ext _ _ _ _ _ (Nat.le_succ _) (fun k hk _ => Heap.put_ne _ _ (Nat.ne_of_lt hk)) hah.tk⟩, Heap.put_same _ _ _, Nat.lt_succ_self _, fun e => by rw [e] at hk1; exact absurd hk1 (Nat.lt_irrefl _), fun hk => absurd (hk2 _ hk) (Nat.lt_irrefl _)⟩)
end Go.Proofs.Ytijhkfhflpmajaa
namespace Go.Proofs.Ytijhkfhflpmajaa
open Go Go.Sx Go.Rt Go.Proofs
structure AmidE {P : Program} (T : Tk P) (H : Heap) (n kf : Nat) (e : Ent) (w : Wlk) (st : T.σ) (T' : Nat → AV) (H' : Heap) (n' : Nat) : Prop where
  t0 : T' 0 = .loc kf 0 0 0 [0]
  t3 : T' 3 = .loc n 0 0 0 []
  en : H' n = some (.arr 0 7 [entAV e])
  le : n + 1 ≤ n'
  walk : H' T.kw = some (.arr 0 25 [walkAV T w])
  tk : T.holds st H' n'
  rest : ∀ k, k < n → k ≠ T.kw → ¬ T.keys k → H' k = H k
set_option maxRecDepth 100000 in
set_option maxHeartbeats 1600000 in
theorem c_stream_pushE (T : Tk Try.prog) (ok : T.σ → Prop) (hT : TkOK T ok) (w : Wlk) (st : T.σ) (e : Ent) (kf : Nat) (H : Heap) (n : Nat) (hs : StrOK T H n kf w st) (hfit : e.fits)
    (hok : ok st) (hok1 : ok (preT T w st e)) (hok2 : ok (nt1 T (preW w e) (preT T w st e) e)) (hwk : WOK w) (hwk2 : WOK (preW w e)) :
    ACalls Try.prog 53 [.loc kf 0 0 0 [0], entAV e] H n fun res H' n' => res = .val (.tup [.bool (pushR w e).1, .int .i64 (pushR w e).2]) ∧ Rt.Left T H n (pushW w e) (pushT T w st e) H' n' := by
  obtain ⟨⟨hkw, hkeys, hw0, htk0⟩, hkf0, hkfn, hkfw, hkfk⟩ := hs
  have hkf := hkf0
  simp only [strAV] at hkf
  have hw := hw0
  simp only [walkAV, tkAV] at hw
  have q1 : (T.kw = n) = False := by simp; omega
  have q2 : (kf = n) = False := by simp; omega
  have q3 : (n = T.kw) = False := by simp; omega
  have hmb := map_byteOf e.row
  have hmb2 := map_byteOf w.last.row
  have hib := bys_isByte e.row
  have hib2 := bys_isByte w.last.row
  have hcmp : ∀ m o, Ret Try.prog 69 [entAV w.last, entAV e] (H.put n o) m (.int .i64 (compE w.last e)) (H.put n o) m := fun m o => c_cell_Compare w.last e _ _
  have hsam : ∀ m o, Ret Try.prog 66 [entAV w.last, entAV e] (H.put n o) m (.bool (sameE w.last e)) (H.put n o) m := fun m o => c_retain_same w.last e _ _
  have hchk : ∀ m o, Ret Try.prog 59 [schAV w.s, entAV e] (H.put n o) m (.int .i64 (checkedE w.s e)) (H.put n o) m := fun m o => c_retain_checked w.s e _ _
  refine acalls_of_awp Try.func53 rfl Try.ntmps53 (congrArg Array.toList Try.results53) (by simp) ?_
  simp only [go_sem]
  refine awp_reg zs [0, 3] fun K hK => ?_
  try simp only [go_sem, seval, hw, hkf, q1, q2, q3, walkAV, tkAV, Nat.add_assoc]
  repeat refine peel ?_
  refine hK _ _ _ ?_; clear hK K
  refine awp_seq_k fun K1 hK1 => ?_
  refine awp_drw rfl zs [0, 3, 6] [.m, .q, .q, .q, .q, .q, .q, .q, .c, .q] (by kernel_rfl) (fun _ _ _ _ _ h => h) fun K hK => ?_
  try simp only [go_sem, seval, hw, hkf, q1, q2, q3, walkAV, tkAV, Nat.add_assoc]
  repeat refine peel ?_
  refine callQG_use Try.func59 rfl rfl rfl (fun _ n => (hchk _ _)) ?_
  try simp only [go_sem, seval, hw, hkf, q1, q2, q3, walkAV, tkAV, Nat.add_assoc]
  repeat refine peel ?_
  refine hK _ _ _ ?_; clear hK K
  refine awp_reg zs [0, 3, 6, 18] fun K hK => ?_
  try simp only [go_sem, seval, hw, hkf, q1, q2, q3, walkAV, tkAV, Nat.add_assoc]
  repeat refine peel ?_
  refine hK _ _ _ ?_; clear hK K
  refine awp_cnd (fun hb => ?_) (fun hb => ?_)
  ·skip
   have hce : checkedE w.s e ≠ 0 := by simpa using hb
   have hR : pushR w e = (false, checkedE w.s e) := by unfold pushR; rw [if_pos hce]
   refine awp_reg zs [4, 5] fun K hK => ?_
   try simp only [go_sem, seval, hw, hkf, q1, q2, q3, walkAV, tkAV, Nat.add_assoc]
   repeat refine peel ?_
   refine hK _ _ _ ?_; clear hK K
   refine awp_ret ?_
   try simp only [go_sem, seval, hw, hkf, q1, q2, q3, walkAV, tkAV, Nat.add_assoc]
   first
   | (have hW : pushW w e = nextW (preW w e) e := by unfold pushW; rw [hR]; rfl
      have hT9 : pushT T w st e = nextT T (preW w e) (preT T w st e) e := by unfold pushT; rw [hR]; rfl
      rw [hR, hW, hT9]
      exact ⟨rfl, hL.up (by omega) hrest⟩)
   | (have hW : pushW w e = w := by unfold pushW; rw [hR]; rfl
      have hT9 : pushT T w st e = st := by unfold pushT; rw [hR]; rfl
      rw [hR, hW, hT9]
      exact ⟨rfl, by omega, (Heap.put_ne _ _ (by omega)).trans hw0, T.ext st H _ n _ (by omega) (fun k hk h2 => Heap.put_ne _ _ (by omega)) htk0, fun k hk _ _ => Heap.put_ne _ _ (by omega)⟩)
  ·skip
   have hce : ¬ checkedE w.s e ≠ 0 := by simpa using hb
   refine awp_skip ?_
   try simp only [go_sem, seval, hw, hkf, q1, q2, q3, walkAV, tkAV, Nat.add_assoc]
   refine hK1 _ _ _ ?_
   first | clear hK1 K1 | skip
   refine awp_seq_j (fun T' H' n' => T' = tl [(0, .loc kf 0 0 0 [0]), (3, .loc n 0 0 0 [])] ∧ H' = H.put n (some (.arr 0 7 [entAV e])) ∧ n' = n + 1 ∧ pushR w e = (true, 0)) ?_ ?_
   ·skip
    refine awp_reg zs [0, 3, 26] fun K hK => ?_
    try simp only [go_sem, seval, hw, hkf, q1, q2, q3, walkAV, tkAV, Nat.add_assoc]
    repeat refine peel ?_
    refine hK _ _ _ ?_; clear hK K
    refine awp_cnd (fun hb => ?_) (fun hb => ?_)
    ·skip
     have hany : w.any = true := hb
     refine awp_drw rfl zs [0, 3, 7] [.m, .q, .q, .q, .q, .q, .q, .q, .c, .q] (by kernel_rfl) (fun _ _ _ _ _ h => h) fun K hK => ?_
     try simp only [go_sem, seval, hw, hkf, q1, q2, q3, walkAV, tkAV, Nat.add_assoc]
     repeat refine peel ?_
     refine callQG_use Try.func69 rfl rfl rfl (fun _ n => (hcmp _ _)) ?_
     try simp only [go_sem, seval, hw, hkf, q1, q2, q3, walkAV, tkAV, Nat.add_assoc]
     repeat refine peel ?_
     refine hK _ _ _ ?_; clear hK K
     refine awp_block ?_
     refine awp_reg zs [0, 3, 7, 36] fun K hK => ?_
     try simp only [go_sem, seval, hw, hkf, q1, q2, q3, walkAV, tkAV, Nat.add_assoc]
     repeat refine peel ?_
     refine hK _ _ _ ?_; clear hK K
     refine awp_cnd (fun hb => ?_) (fun hb => ?_)
     ·skip
      have hR : pushR w e = (false, 30) := by unfold pushR; rw [if_neg hce, if_pos hany, if_pos (of_decide_eq_true hb)]
      refine awp_reg zs [4, 5] fun K hK => ?_
      try simp only [go_sem, seval, hw, hkf, q1, q2, q3, walkAV, tkAV, Nat.add_assoc]
      repeat refine peel ?_
      refine hK _ _ _ ?_; clear hK K
      refine awp_ret ?_
      try simp only [go_sem, seval, hw, hkf, q1, q2, q3, walkAV, tkAV, Nat.add_assoc]
      first
      | (have hW : pushW w e = nextW (preW w e) e := by unfold pushW; rw [hR]; rfl
         have hT9 : pushT T w st e = nextT T (preW w e) (preT T w st e) e := by unfold pushT; rw [hR]; rfl
         rw [hR, hW, hT9]
         exact ⟨rfl, hL.up (by omega) hrest⟩)
      | (have hW : pushW w e = w := by unfold pushW; rw [hR]; rfl
         have hT9 : pushT T w st e = st := by unfold pushT; rw [hR]; rfl
         rw [hR, hW, hT9]
         exact ⟨rfl, by omega, (Heap.put_ne _ _ (by omega)).trans hw0, T.ext st H _ n _ (by omega) (fun k hk h2 => Heap.put_ne _ _ (by omega)) htk0, fun k hk _ _ => Heap.put_ne _ _ (by omega)⟩)
     ·skip
      have hc1 : ¬ 0 < compE w.last e := of_decide_eq_false hb
      refine awp_drw rfl zs [0, 3, 7, 39] [.m, .q, .m, .m, .q, .q, .q, .q, .q, .q, .q, .c, .q, .q] (by kernel_rfl) (fun _ _ _ _ _ h => h) fun K hK => ?_
      try simp only [go_sem, seval, hw, hkf, q1, q2, q3, walkAV, tkAV, Nat.add_assoc]
      repeat refine peel ?_
      refine callQG_use Try.func66 rfl rfl rfl (fun _ n => (hsam _ _)) ?_
      try simp only [go_sem, seval, hw, hkf, q1, q2, q3, walkAV, tkAV, Nat.add_assoc]
      repeat refine peel ?_
      refine hK _ _ _ ?_; clear hK K
      refine awp_cnd (fun hb => ?_) (fun hb => ?_)
      ·skip
       have hc2 : compE w.last e = 0 ∧ w.last = e := by cases h9 : (compE w.last e == 0) <;> simp_all [sameE]
       have hR : pushR w e = (false, 0) := by unfold pushR; rw [if_neg hce, if_pos hany, if_neg hc1, if_pos hc2]
       refine awp_reg zs [4, 5] fun K hK => ?_
       try simp only [go_sem, seval, hw, hkf, q1, q2, q3, walkAV, tkAV, Nat.add_assoc]
       repeat refine peel ?_
       refine hK _ _ _ ?_; clear hK K
       refine awp_ret ?_
       try simp only [go_sem, seval, hw, hkf, q1, q2, q3, walkAV, tkAV, Nat.add_assoc]
       first
       | (have hW : pushW w e = nextW (preW w e) e := by unfold pushW; rw [hR]; rfl
          have hT9 : pushT T w st e = nextT T (preW w e) (preT T w st e) e := by unfold pushT; rw [hR]; rfl
          rw [hR, hW, hT9]
          exact ⟨rfl, hL.up (by omega) hrest⟩)
       | (have hW : pushW w e = w := by unfold pushW; rw [hR]; rfl
          have hT9 : pushT T w st e = st := by unfold pushT; rw [hR]; rfl
          rw [hR, hW, hT9]
          exact ⟨rfl, by omega, (Heap.put_ne _ _ (by omega)).trans hw0, T.ext st H _ n _ (by omega) (fun k hk h2 => Heap.put_ne _ _ (by omega)) htk0, fun k hk _ _ => Heap.put_ne _ _ (by omega)⟩)
      ·skip
       have hc2 : ¬ (compE w.last e = 0 ∧ w.last = e) := by cases h9 : (compE w.last e == 0) <;> simp_all [sameE]
       refine awp_drw rfl zs [0, 3, 53] [.m, .q, .m, .m, .q, .q, .q, .q, .q, .q, .q, .q, .q, .q, .q, .q] (by kernel_rfl) (fun _ _ _ _ _ h => h) fun K hK => ?_
       try simp only [go_sem, seval, hw, hkf, q1, q2, q3, walkAV, tkAV, Nat.add_assoc]
       repeat refine peel ?_
       refine hK _ _ _ ?_; clear hK K
       refine awp_cnd (fun hb => ?_) (fun hb => ?_)
       ·skip
        have hc3 : compE w.last e = 0 ∨ w.last.seq = e.seq := by cases h9 : (compE w.last e == 0) <;> simp_all
        have hR : pushR w e = (false, 31) := by unfold pushR; rw [if_neg hce, if_pos hany, if_neg hc1, if_neg hc2, if_pos hc3]
        refine awp_reg zs [4, 5] fun K hK => ?_
        try simp only [go_sem, seval, hw, hkf, q1, q2, q3, walkAV, tkAV, Nat.add_assoc]
        repeat refine peel ?_
        refine hK _ _ _ ?_; clear hK K
        refine awp_ret ?_
        try simp only [go_sem, seval, hw, hkf, q1, q2, q3, walkAV, tkAV, Nat.add_assoc]
        first
        | (have hW : pushW w e = nextW (preW w e) e := by unfold pushW; rw [hR]; rfl
           have hT9 : pushT T w st e = nextT T (preW w e) (preT T w st e) e := by unfold pushT; rw [hR]; rfl
           rw [hR, hW, hT9]
           exact ⟨rfl, hL.up (by omega) hrest⟩)
        | (have hW : pushW w e = w := by unfold pushW; rw [hR]; rfl
           have hT9 : pushT T w st e = st := by unfold pushT; rw [hR]; rfl
           rw [hR, hW, hT9]
           exact ⟨rfl, by omega, (Heap.put_ne _ _ (by omega)).trans hw0, T.ext st H _ n _ (by omega) (fun k hk h2 => Heap.put_ne _ _ (by omega)) htk0, fun k hk _ _ => Heap.put_ne _ _ (by omega)⟩)
       ·skip
        have hc3 : ¬ (compE w.last e = 0 ∨ w.last.seq = e.seq) := by cases h9 : (compE w.last e == 0) <;> simp_all
        have hR : pushR w e = (true, 0) := by unfold pushR; rw [if_neg hce, if_pos hany, if_neg hc1, if_neg hc2, if_neg hc3]
        refine awp_sel [0, 3] ?_
        refine awp_skip ?_
        try simp only [go_sem, seval, hw, hkf, q1, q2, q3, walkAV, tkAV, Nat.add_assoc]
        first | exact ⟨rfl, rfl, rfl, hR⟩ | exact hR
    ·skip
     have hany : ¬ w.any = true := by rw [Bool.not_eq_true]; exact hb
     have hR : pushR w e = (true, 0) := by unfold pushR; rw [if_neg hce, if_neg hany]
     refine awp_sel [0, 3] ?_
     refine awp_skip ?_
     try simp only [go_sem, seval, hw, hkf, q1, q2, q3, walkAV, tkAV, Nat.add_assoc]
     first | exact ⟨rfl, rfl, rfl, hR⟩ | exact hR
   rintro T1 H1 n1 ⟨rfl, rfl, rfl, hR⟩
   refine awp_seq_j (AmidE T H n kf e (preW w e) (preT T w st e)) ?_ ?_
   ·skip
    refine awp_drw rfl zs [0, 3, 90] [.m, .q, .q, .q, .q, .q, .q, .m, .m, .q, .q, .q, .q, .q, .q, .q, .q, .q, .q, .q, .q, .q] (by kernel_rfl) (fun _ _ _ _ _ h => h) fun K hK => ?_
    try simp only [go_sem, seval, hw, hkf, q1, q2, q3, walkAV, tkAV, Nat.add_assoc, hmb, hmb2, List.drop_zero, Nat.zero_add]
    repeat (first | (refine And.intro ?_ ?_; · first | exact fun _ => ⟨rfl, rfl, hib⟩ | exact fun _ => ⟨rfl, rfl, hib2⟩ | exact fun _ => hib | exact fun _ => hib2) | refine peel ?_)
    refine hK _ _ _ ?_; clear hK K
    refine awp_cnd (fun hb => ?_) (fun hb => ?_)
    ·skip
     have hnr : rowNew w e = true := hb
     refine awp_reg1 zs [0, 3] fun K hK => ?_
     try simp only [go_sem, seval, hw, hkf, q1, q2, q3, walkAV, tkAV, Nat.add_assoc]
     repeat refine peel ?_
     refine callK_useK (args' := [.loc T.kw 0 0 0 []]) Try.func64 rfl rfl rfl (c_retain_walk_close T ok hT w st _ (n + 1) ⟨by omega, fun k hk => by have := hkeys k hk; omega, (Heap.put_ne _ _ (by omega)).trans hw0, T.ext st H _ n _ (by omega) (fun k hk h2 => Heap.put_ne _ _ (by omega)) htk0⟩ hok hwk) ?_ ?_
     rotate_left
     · intro p H' n' h; cases h.1
     intro r H2 n2 ⟨hr2, hL⟩
     cases hr2
     try simp only [go_sem, seval, hw, hkf, q1, q2, q3, walkAV, tkAV, Nat.add_assoc]
     repeat refine peel ?_
     refine hK _ _ _ ?_; clear hK K
     try simp only [go_sem, seval, hw, hkf, q1, q2, q3, walkAV, tkAV, Nat.add_assoc]
     first
     | (refine ⟨rfl, rfl, ?_, by have := hL.le; omega, ?_, ?_, fun k hk h1 h2 => ?_⟩
        · rw [hL.rest n (by omega) (by omega) (fun h => by have := hkeys n h; omega)]; exact Heap.put_same _ _ _
        · simp only [preW, hnr, cond_true]; exact hL.walk
        · simp only [preT, hnr, cond_true]; exact hL.tk
        · rw [hL.rest k (by omega) h1 h2, Heap.put_ne _ _ (by omega)])
     | (refine ⟨rfl, rfl, Heap.put_same _ _ _, by omega, ?_, ?_, fun k hk h1 h2 => Heap.put_ne _ _ (by omega)⟩
        · simp only [preW, hnr, cond_false]; exact (Heap.put_ne _ _ (by omega)).trans hw0
        · simp only [preT, hnr, cond_false]
          exact T.ext st H _ n _ (by omega) (fun k hk h2 => Heap.put_ne _ _ (by omega)) htk0)
    ·skip
     have hnr : rowNew w e = false := hb
     refine awp_sel [0, 3] ?_
     refine awp_skip ?_
     try simp only [go_sem, seval, hw, hkf, q1, q2, q3, walkAV, tkAV, Nat.add_assoc]
     first
     | (refine ⟨rfl, rfl, ?_, by have := hL.le; omega, ?_, ?_, fun k hk h1 h2 => ?_⟩
        · rw [hL.rest n (by omega) (by omega) (fun h => by have := hkeys n h; omega)]; exact Heap.put_same _ _ _
        · simp only [preW, hnr, cond_true]; exact hL.walk
        · simp only [preT, hnr, cond_true]; exact hL.tk
        · rw [hL.rest k (by omega) h1 h2, Heap.put_ne _ _ (by omega)])
     | (refine ⟨rfl, rfl, Heap.put_same _ _ _, by omega, ?_, ?_, fun k hk h1 h2 => Heap.put_ne _ _ (by omega)⟩
        · simp only [preW, hnr, cond_false]; exact (Heap.put_ne _ _ (by omega)).trans hw0
        · simp only [preT, hnr, cond_false]
          exact T.ext st H _ n _ (by omega) (fun k hk h2 => Heap.put_ne _ _ (by omega)) htk0)
   rintro T1 H1 n1 ⟨ht0, ht3, he0, hn, hw9, htk, hrest⟩
   refine awp_sel [0, 3] ?_
   simp only [tsel_eq, List.map_cons, List.map_nil, ht0, ht3]
   have hkf9 := (hrest kf hkfn hkfw hkfk).trans hkf0
   simp only [strAV] at hkf9
   refine awp_drw rfl zs [] [.m, .q, .q, .q, .q, .w [1, 2, 3], .w []] (by kernel_rfl) (fun _ _ _ _ _ h => h) fun K hK => ?_
   try simp only [go_sem, seval, hw, hkf, q1, q2, q3, walkAV, tkAV, Nat.add_assoc, hkf9, he0]
   repeat refine peel ?_
   refine callK_use Try.func67 rfl rfl rfl ((c_retain_copied e hfit _ _)) ?_
   try simp only [go_sem, seval, hw, hkf, q1, q2, q3, walkAV, tkAV, Nat.add_assoc, hkf9, he0]
   repeat refine peel ?_
   refine callK_useK (args' := [.loc T.kw 0 0 0 [], entAV e]) Try.func63 rfl rfl rfl (c_retain_walk_next T ok hT (preW w e) (preT T w st e) e H1 n1 ⟨by omega, fun k hk => by have := hkeys k hk; omega, hw9, htk⟩ hok1 hok2 hwk2 hfit) ?_ ?_
   rotate_left
   · intro p H' n' h; cases h.1
   intro r H2 n2 ⟨hr2, hL⟩
   cases hr2
   try simp only [go_sem, seval, hw, hkf, q1, q2, q3, walkAV, tkAV, Nat.add_assoc, hkf9, he0]
   repeat refine peel ?_
   refine hK _ _ _ ?_; clear hK K
   refine awp_reg zs [4, 5] fun K hK => ?_
   try simp only [go_sem, seval, hw, hkf, q1, q2, q3, walkAV, tkAV, Nat.add_assoc]
   repeat refine peel ?_
   refine hK _ _ _ ?_; clear hK K
   refine awp_ret ?_
   try simp only [go_sem, seval, hw, hkf, q1, q2, q3, walkAV, tkAV, Nat.add_assoc]
   first
   | (have hW : pushW w e = nextW (preW w e) e := by unfold pushW; rw [hR]; rfl
      have hT9 : pushT T w st e = nextT T (preW w e) (preT T w st e) e := by unfold pushT; rw [hR]; rfl
      rw [hR, hW, hT9]
      exact ⟨rfl, hL.up (by omega) hrest⟩)
   | (have hW : pushW w e = w := by unfold pushW; rw [hR]; rfl
      have hT9 : pushT T w st e = st := by unfold pushT; rw [hR]; rfl
      rw [hR, hW, hT9]
      exact ⟨rfl, by omega, (Heap.put_ne _ _ (by omega)).trans hw0, T.ext st H _ n _ (by omega) (fun k hk h2 => Heap.put_ne _ _ (by omega)) htk0, fun k hk _ _ => Heap.put_ne _ _ (by omega)⟩)
end Go.Proofs.Ytijhkfhflpmajaa
namespace Go.Proofs.Ytijhkfhflpmajaa
open Go Go.Sx Go.Rt Go.Proofs
set_option maxHeartbeats 1600000 in
theorem r_PushE0 (kw kt ko lo : Nat) (h : KSep kw kt ko lo) (w : Wlk) (st : SSt) (e : Ent) (kf : Nat) (H : Heap) (n : Nat) (hs : StrOK (shownTk kw kt ko lo h) H n kf w st) (hfit : e.fits)
    (hok : SSt.ok st) (hok1 : SSt.ok (preT (shownTk kw kt ko lo h) w st e)) (hok2 : SSt.ok (nt1 (shownTk kw kt ko lo h) (preW w e) (preT (shownTk kw kt ko lo h) w st e) e)) (hwk : WOK w) (hwk2 : WOK (preW w e)) :
    ACalls Try.prog 35 [.loc kf 0 0 0 [], entAV e] H n fun res H' n' =>
      ((pushR w e).2 ≠ 0 → res = .val (.tup [.nilsl, .int .i64 (pushR w e).2]) ∧ Rt.Left (shownTk kw kt ko lo h) H n w st H' n') ∧
      ((pushR w e).2 = 0 → ∃ (H2 : Heap), res = .val (.tup [.osl ko (pushT (shownTk kw kt ko lo h) w st e : SSt).out.length 0 (pushT (shownTk kw kt ko lo h) w st e : SSt).out.length, .int .i64 0]) ∧ Rt.Left (shownTk kw kt ko lo h) H n (pushW w e) (pushT (shownTk kw kt ko lo h) w st e) H2 n' ∧ H' = H2.put kt (some (.arr 0 12 [shownN kw (pushT (shownTk kw kt ko lo h) w st e)]))) := by
  have hkfn := hs.lt
  have hkfw : kf ≠ kw := hs.nw
  have hkfk := hs.nk
  have hkf0 := hs.at'
  have hs1 : ∀ o, StrOK (shownTk kw kt ko lo h) (H.put n o) (n + 1) kf w st := fun o => ⟨⟨by have := hs.ah.kw; omega, fun k hk => by have := hs.ah.keys k hk; omega, (Heap.put_ne _ _ (by have := hs.ah.kw; omega)).trans hs.ah.walk, (shownTk kw kt ko lo h).ext st H _ n _ (by omega) (fun k hk _ => Heap.put_ne _ _ (by omega)) hs.ah.tk⟩, (Heap.put_ne _ _ (by omega)).trans hs.at', by omega, hs.nw, hs.nk⟩
  refine acalls_of_awp Try.func35 rfl Try.ntmps35 (congrArg Array.toList Try.results35) (by simp) ?_
  simp only [go_sem]
  refine awp_rq zs [0, 3] ?_
  refine awp_seq_k fun K1 hK1 => ?_
  refine awp_drw rfl zs [0, 7] [.m, .q, .q, .q, .w [], .m, .q, .q, .q, .q] (by kernel_rfl) (fun _ _ _ _ _ h => h) fun K hK => ?_
  try simp only [go_sem, seval]
  repeat refine peel ?_
  refine callK_useK (args' := [.loc kf 0 0 0 [0], entAV e]) Try.func53 rfl rfl rfl (c_stream_pushE (shownTk kw kt ko lo h) SSt.ok (shown_tkOK kw kt ko lo h) w st e kf _ (n + 1) (hs1 _) hfit hok hok1 hok2 hwk hwk2) ?_ ?_
  rotate_left
  · intro p H' n' h; cases h.1
  intro r H2 n2 ⟨hr2, hL⟩
  cases hr2
  try simp only [go_sem, seval]
  repeat refine peel ?_
  refine hK _ _ _ ?_; clear hK K
  refine awp_rq zs [0, 7, 17] ?_
  refine awp_cnd (fun hb => ?_) (fun hb => ?_)
  ·skip
   have hne : (pushR w e).2 ≠ 0 := by simpa using hb
   refine awp_rq zs [4, 5] ?_
   refine awp_ret ?_
   try simp only [go_sem, seval]
   refine ⟨fun h9 => ?_, fun h9 => ?_⟩
   · first
     | exact absurd hne h9
     | (have hpw : pushW w e = w := by unfold pushW; have : (pushR w e).1 = false := pushR_err hne; rw [this]; rfl
        have hpt : pushT (shownTk kw kt ko lo h) w st e = st := by unfold pushT; have : (pushR w e).1 = false := pushR_err hne; rw [this]; rfl
        rw [hpw, hpt] at hL
        have hL9 := hL.up (H := H) (n := n) (by omega) (fun k hk _ _ => Heap.put_ne _ _ (by omega))
        first | exact hL9 | exact ⟨rfl, hL9⟩)
   · first
     | exact absurd h9 hne
     | (have hL9 := hL.up (H := H) (n := n) (by omega) (fun k hk _ _ => Heap.put_ne _ _ (by omega))
        first | exact ⟨H2, hL9, rfl⟩ | (rw [hne]; exact ⟨H2, rfl, hL9, rfl⟩) | exact ⟨H2, rfl, hL9, rfl⟩)
  ·skip
   have hne : (pushR w e).2 = 0 := by simpa using hb
   obtain ⟨hlo2, htk2, xs, hxe, hko2, hm2⟩ := hL.tk
   refine awp_skip ?_
   try simp only [go_sem, seval]
   refine hK1 _ _ _ ?_
   first | clear hK1 K1 | skip
   refine awp_reg zs [4, 5] fun K hK => ?_
   try simp only [go_sem, seval]
   repeat refine peel ?_
   refine callK_use Try.func55 rfl rfl rfl ((r_out kw kt ko kf (pushT (shownTk kw kt ko lo h) w st e) (xs.map lentAV) H2 n2 ((hL.rest kf (by omega) hkfw hkfk).trans ((Heap.put_ne _ _ (by omega)).trans hkf0)) htk2 (by rw [hko2, ← hxe]; simp) (by rw [← hxe]; simp) (fun e => hkfk (.inl e)) (Ne.symm h.c))) ?_
   try simp only [go_sem, seval]
   repeat refine peel ?_
   refine hK _ _ _ ?_; clear hK K
   refine awp_ret ?_
   try simp only [go_sem, seval]
   refine ⟨fun h9 => ?_, fun h9 => ?_⟩
   · first
     | exact absurd hne h9
     | (have hpw : pushW w e = w := by unfold pushW; have : (pushR w e).1 = false := pushR_err hne; rw [this]; rfl
        have hpt : pushT (shownTk kw kt ko lo h) w st e = st := by unfold pushT; have : (pushR w e).1 = false := pushR_err hne; rw [this]; rfl
        rw [hpw, hpt] at hL
        have hL9 := hL.up (H := H) (n := n) (by omega) (fun k hk _ _ => Heap.put_ne _ _ (by omega))
        first | exact hL9 | exact ⟨rfl, hL9⟩)
   · first
     | exact absurd h9 hne
     | (have hL9 := hL.up (H := H) (n := n) (by omega) (fun k hk _ _ => Heap.put_ne _ _ (by omega))
        first | exact ⟨H2, hL9, rfl⟩ | (rw [hne]; exact ⟨H2, rfl, hL9, rfl⟩) | exact ⟨H2, rfl, hL9, rfl⟩)
theorem r_PushE (kw kt ko lo : Nat) (h : KSep kw kt ko lo) (w : Wlk) (st : SSt) (e : Ent) (kf : Nat) (H : Heap) (n : Nat) (hs : StrOK (shownTk kw kt ko lo h) H n kf w st) (hfit : e.fits)
    (hok : SSt.ok st) (hok1 : SSt.ok (preT (shownTk kw kt ko lo h) w st e)) (hok2 : SSt.ok (nt1 (shownTk kw kt ko lo h) (preW w e) (preT (shownTk kw kt ko lo h) w st e) e)) (hwk : WOK w) (hwk2 : WOK (preW w e)) :
    ACalls Try.prog 35 [.loc kf 0 0 0 [], entAV e] H n (RPost kw kt ko lo h kf w st e H n) := by
  refine (r_PushE0 kw kt ko lo h w st e kf H n hs hfit hok hok1 hok2 hwk hwk2).post_adopt fun res H1 n1 ⟨p1, p2⟩ => ?_
  by_cases h0 : (pushR w e).2 = 0
  · right
    obtain ⟨H2, hr, hL, rfl⟩ := p2 h0
    obtain ⟨hlo2, htk2, xs, hxe, hko2, hm2⟩ := hL.tk
    have hkw : kw < n := hs.ah.kw
    have hkt : kt < n := hs.ah.keys kt (.inl rfl)
    have hko : ko < n := hs.ah.keys ko (.inr rfl)
    have hle := hL.le
    have hc := h.c
    have ha := h.a
    have hb := h.b
    have hd := h.d
    have he := h.e
    have hf := h.f
    generalize hst2 : (pushT (shownTk kw kt ko lo h) w st e : SSt) = st2 at *
    have hG : ∀ k, k ≠ kt → k ≠ n1 → ∀ o o' o2, (((H2.put kt o).put n1 o').put kt o2) k = H2 k := fun k g1 g2 o o' o2 => (Heap.put_ne _ _ g1).trans ((Heap.put_ne _ _ g2).trans (Heap.put_ne _ _ g1))
    refine ⟨kt, 0, 12, [shownN kw st2], [shownAV kw n1 { st2 with out := [] }], 7, Heap.put_same _ _ _, ⟨Adp.agg ⟨.refl _ _, .refl _ _, Adp.nilsl _, .refl _ _, .refl _ _, .refl _ _, trivial⟩, trivial⟩, fun hne => absurd h0 hne, fun _ => ?_⟩
    refine ⟨n1, n1 + 1, ⟨by omega, by omega, by omega, by omega, by omega, by omega⟩, xs, ?_, hle, by omega, by rw [hst2]; exact hxe, ?_, ?_, by omega, by omega, fun hin => by have := (hm2.in' hin).2; omega, ⟨?_, fun k hk => ?_, ?_, ?_⟩, fun k hk g1 g2 g3 => ?_⟩
    · have hl : st2.out.length = xs.length := by rw [← hxe]; simp
      rw [hr, hl]
    · rw [hG ko (Ne.symm hc) (by omega)]; exact hko2
    · exact hm2.mono (fun k g1 g2 => hG k (by omega) (by omega) _ _ _) (by omega)
    · show kw < n1 + 1; omega
    · rcases hk with rfl | rfl <;> omega
    · show _ = _
      rw [show (shownTk kw kt n1 (n1 + 1) _).kw = kw from rfl, hG kw ha (by omega)]; exact hL.walk
    · rw [hst2]
      exact ⟨Nat.le_refl _, Heap.put_same _ _ _, [], rfl, (Heap.put_ne _ _ (by omega)).trans (Heap.put_same _ _ _), MineL.nil _ _ _⟩
    · rw [hG k g2 (by omega)]; exact hL.rest k hk g1 (fun hh => by rcases hh with hh | hh; exact g2 hh; exact g3 hh)
  · left
    exact ⟨p1, fun h => absurd h h0⟩
set_option maxHeartbeats 1600000 in
theorem f_PushE0 (kw kt ko lo : Nat) (h : KSep kw kt ko lo) (w : Wlk) (st : KSt) (e : Ent) (kf : Nat) (H : Heap) (n : Nat) (hs : StrOK (keptTk kw kt ko lo h) H n kf w st) (hfit : e.fits)
    (hok : KSt.ok st) (hok1 : KSt.ok (preT (keptTk kw kt ko lo h) w st e)) (hok2 : KSt.ok (nt1 (keptTk kw kt ko lo h) (preW w e) (preT (keptTk kw kt ko lo h) w st e) e)) (hwk : WOK w) (hwk2 : WOK (preW w e)) :
    ACalls Try.prog 32 [.loc kf 0 0 0 [], entAV e] H n fun res H' n' =>
      ((pushR w e).2 ≠ 0 → res = .val (.tup [.nilsl, .int .i64 (pushR w e).2]) ∧ Rt.Left (keptTk kw kt ko lo h) H n w st H' n') ∧
      ((pushR w e).2 = 0 → ∃ (H2 : Heap), res = .val (.tup [.osl ko (pushF kw kt ko lo h w st e).out.length 0 (pushF kw kt ko lo h w st e).out.length, .int .i64 0]) ∧ Rt.Left (keptTk kw kt ko lo h) H n (pushW w e) (pushF kw kt ko lo h w st e) H2 n' ∧ H' = H2.put kt (some (.arr 0 9 [keptN kw (pushF kw kt ko lo h w st e)]))) := by
  have hkfn := hs.lt
  have hkfw : kf ≠ kw := hs.nw
  have hkfk := hs.nk
  have hkf0 := hs.at'
  have hkft : kf ≠ kt := fun e => hkfk (.inl e)
  have hwr : IntKind.i64.wrap (st.older + 1) = st.older + 1 := by obtain ⟨h1, h2, h3, h4, h5, h6⟩ := hok; exact w64 (by omega) (by omega)
  have hs1 : ∀ o, StrOK (keptTk kw kt ko lo h) (H.put n o) (n + 1) kf w st := fun o => ⟨⟨by have := hs.ah.kw; omega, fun k hk => by have := hs.ah.keys k hk; omega, (Heap.put_ne _ _ (by have := hs.ah.kw; omega)).trans hs.ah.walk, (keptTk kw kt ko lo h).ext st H _ n _ (by omega) (fun k hk _ => Heap.put_ne _ _ (by omega)) hs.ah.tk⟩, (Heap.put_ne _ _ (by omega)).trans hs.at', by omega, hs.nw, hs.nk⟩
  have hkf9 : (0 : Nat) = 0 := rfl
  have hk9 : (0 : Nat) = 0 := rfl
  refine acalls_of_awp Try.func32 rfl Try.ntmps32 (congrArg Array.toList Try.results32) (by simp) ?_
  simp only [go_sem]
  refine awp_reg zs [0, 3] fun K hK => ?_
  try simp only [go_sem, seval, hkf9, hk9, hwr]
  repeat refine peel ?_
  refine hK _ _ _ ?_; clear hK K
  refine awp_drw rfl zs [0, 6, 7] [.m, .q, .q, .q, .w [], .m, .q, .q, .q, .q] (by kernel_rfl) (fun _ _ _ _ _ h => h) fun K hK => ?_
  try simp only [go_sem, seval, hkf9, hk9, hwr]
  repeat refine peel ?_
  refine callK_useK (args' := [.loc kf 0 0 0 [0], entAV e]) Try.func53 rfl rfl rfl (c_stream_pushE (keptTk kw kt ko lo h) KSt.ok (kept_tkOK kw kt ko lo h) w st e kf _ (n + 1) (hs1 _) hfit hok hok1 hok2 hwk hwk2) ?_ ?_
  rotate_left
  · intro p H' n' h; cases h.1
  intro r H2 n2 ⟨hr2, hL⟩
  cases hr2
  try simp only [go_sem, seval, hkf9, hk9, hwr]
  repeat refine peel ?_
  refine hK _ _ _ ?_; clear hK K
  refine awp_seq_k fun K1 hK1 => ?_
  refine awp_reg zs [0, 6, 7, 17] fun K hK => ?_
  try simp only [go_sem, seval, hkf9, hk9, hwr]
  repeat refine peel ?_
  refine hK _ _ _ ?_; clear hK K
  refine awp_cnd (fun hb => ?_) (fun hb => ?_)
  ·skip
   have hne : (pushR w e).2 ≠ 0 := by simpa using hb
   refine awp_reg zs [4, 5] fun K hK => ?_
   try simp only [go_sem, seval, hkf9, hk9, hwr]
   repeat refine peel ?_
   refine hK _ _ _ ?_; clear hK K
   refine awp_ret ?_
   try simp only [go_sem, seval, hkf9, hk9, hwr]
   refine ⟨fun h9 => ?_, fun h9 => ?_⟩
   · first
     | exact absurd hne h9
     | (have hpw : pushW w e = w := by unfold pushW; have : (pushR w e).1 = false := pushR_err hne; rw [this]; rfl
        have hpt : pushT (keptTk kw kt ko lo h) w st e = st := by unfold pushT; have : (pushR w e).1 = false := pushR_err hne; rw [this]; rfl
        rw [hpw, hpt] at hL
        have hL9 := hL.up (H := H) (n := n) (by omega) (fun k hk _ _ => Heap.put_ne _ _ (by omega))
        first | exact hL9 | exact ⟨rfl, hL9⟩)
   · first
     | exact absurd h9 hne
     | (have hL8 := kept_oldL hL
        rw [← hpf] at hL8
        have hL9 := hL8.up (H := H) (n := n) (by omega) (fun k hk _ _ => Heap.put_ne _ _ (by omega))
        first | exact ⟨_, hL9, rfl⟩ | exact ⟨_, rfl, hL9, rfl⟩ | (refine ⟨_, hL9, ?_⟩; rw [hpf]; simp [put2, keptAV, keptO]; done) | (refine ⟨_, hL9, ?_⟩; rw [hpf]; rfl))
     | (rw [← hpf] at hL
        have hL9 := hL.up (H := H) (n := n) (by omega) (fun k hk _ _ => Heap.put_ne _ _ (by omega))
        first | exact ⟨H2, hL9, rfl⟩ | (rw [hne]; exact ⟨H2, rfl, hL9, rfl⟩) | exact ⟨H2, rfl, hL9, rfl⟩)
  ·skip
   have hne : (pushR w e).2 = 0 := by simpa using hb
   have hkf9 : H2 kf = _ := ((hL.rest kf (by omega) hkfw hkfk).trans ((Heap.put_ne _ _ (by omega)).trans hkf0))
   simp only [kept_strAV] at hkf9
   refine awp_skip ?_
   try simp only [go_sem, seval, hkf9, hk9, hwr]
   refine hK1 _ _ _ ?_
   first | clear hK1 K1 | skip
   refine awp_seq_k fun K2 hK2 => ?_
   refine awp_reg zs [0, 20] fun K hK => ?_
   try simp only [go_sem, seval, hkf9, hk9, hwr]
   repeat refine peel ?_
   refine hK _ _ _ ?_; clear hK K
   refine awp_cnd (fun hb => ?_) (fun hb => ?_)
   ·skip
    have h1 : (pushR w e).1 = false := by simpa using hb
    have hpt : pushT (keptTk kw kt ko lo h) w st e = st := by unfold pushT; rw [h1]; rfl
    have hpf : pushF kw kt ko lo h w st e = keptO st := by unfold pushF; rw [h1]; rfl
    rw [hpt] at hL
    obtain ⟨hlo2, htk2, xs, hxe, hko2, hm2⟩ := hL.tk
    have hk9 := htk2
    simp only [keptAV] at hk9
    refine awp_reg1 zs [0] fun K hK => ?_
    try simp only [go_sem, seval, hkf9, hk9, hwr]
    repeat refine peel ?_
    refine hK _ _ _ ?_; clear hK K
    try simp only [go_sem, seval, hkf9, hk9, hwr]
    refine hK2 _ _ _ ?_
    first | clear hK2 K2 | skip
    refine awp_reg zs [4, 5] fun K hK => ?_
    try simp only [go_sem, seval, hkf9, hk9, hwr]
    repeat refine peel ?_
    refine callK_use Try.func52 rfl rfl rfl ((f_out kw kt ko kf (pushF kw kt ko lo h w st e) (xs.map lentAV) _ n2 (by first | exact hkf9 | exact (Heap.put_ne _ _ hkft).trans hkf9) (by rw [hpf]; first | exact htk2 | exact Heap.put_same _ _ _) (by rw [hpf]; first | (rw [hko2, ← hxe]; simp; done) | (rw [Heap.put_ne _ _ (Ne.symm h.c), hko2, show (keptO st).out = st.out from rfl, ← hxe]; simp)) (by rw [hpf]; first | (rw [← hxe]; simp; done) | (rw [show (keptO st).out = st.out from rfl, ← hxe]; simp)) hkft (Ne.symm h.c))) ?_
    try simp only [go_sem, seval, hkf9, hk9, hwr]
    repeat refine peel ?_
    refine hK _ _ _ ?_; clear hK K
    refine awp_ret ?_
    try simp only [go_sem, seval, hkf9, hk9, hwr]
    refine ⟨fun h9 => ?_, fun h9 => ?_⟩
    · first
      | exact absurd hne h9
      | (have hpw : pushW w e = w := by unfold pushW; have : (pushR w e).1 = false := pushR_err hne; rw [this]; rfl
         have hpt : pushT (keptTk kw kt ko lo h) w st e = st := by unfold pushT; have : (pushR w e).1 = false := pushR_err hne; rw [this]; rfl
         rw [hpw, hpt] at hL
         have hL9 := hL.up (H := H) (n := n) (by omega) (fun k hk _ _ => Heap.put_ne _ _ (by omega))
         first | exact hL9 | exact ⟨rfl, hL9⟩)
    · first
      | exact absurd h9 hne
      | (have hL8 := kept_oldL hL
         rw [← hpf] at hL8
         have hL9 := hL8.up (H := H) (n := n) (by omega) (fun k hk _ _ => Heap.put_ne _ _ (by omega))
         first | exact ⟨_, hL9, rfl⟩ | exact ⟨_, rfl, hL9, rfl⟩ | (refine ⟨_, hL9, ?_⟩; rw [hpf]; simp [put2, keptAV, keptO]; done) | (refine ⟨_, hL9, ?_⟩; rw [hpf]; rfl))
      | (rw [← hpf] at hL
         have hL9 := hL.up (H := H) (n := n) (by omega) (fun k hk _ _ => Heap.put_ne _ _ (by omega))
         first | exact ⟨H2, hL9, rfl⟩ | (rw [hne]; exact ⟨H2, rfl, hL9, rfl⟩) | exact ⟨H2, rfl, hL9, rfl⟩)
   ·skip
    have h1 : (pushR w e).1 = true := by simpa using hb
    have hpf : pushF kw kt ko lo h w st e = pushT (keptTk kw kt ko lo h) w st e := by unfold pushF; rw [h1]; rfl
    obtain ⟨hlo2, htk2, xs, hxe, hko2, hm2⟩ := hL.tk
    have hk9 := htk2
    refine awp_skip ?_
    try simp only [go_sem, seval, hkf9, hk9, hwr]
    refine hK2 _ _ _ ?_
    first | clear hK2 K2 | skip
    refine awp_reg zs [4, 5] fun K hK => ?_
    try simp only [go_sem, seval, hkf9, hk9, hwr]
    repeat refine peel ?_
    refine callK_use Try.func52 rfl rfl rfl ((f_out kw kt ko kf (pushF kw kt ko lo h w st e) (xs.map lentAV) _ n2 (by first | exact hkf9 | exact (Heap.put_ne _ _ hkft).trans hkf9) (by rw [hpf]; first | exact htk2 | exact Heap.put_same _ _ _) (by rw [hpf]; first | (rw [hko2, ← hxe]; simp; done) | (rw [Heap.put_ne _ _ (Ne.symm h.c), hko2, show (keptO st).out = st.out from rfl, ← hxe]; simp)) (by rw [hpf]; first | (rw [← hxe]; simp; done) | (rw [show (keptO st).out = st.out from rfl, ← hxe]; simp)) hkft (Ne.symm h.c))) ?_
    try simp only [go_sem, seval, hkf9, hk9, hwr]
    repeat refine peel ?_
    refine hK _ _ _ ?_; clear hK K
    refine awp_ret ?_
    try simp only [go_sem, seval, hkf9, hk9, hwr]
    refine ⟨fun h9 => ?_, fun h9 => ?_⟩
    · first
      | exact absurd hne h9
      | (have hpw : pushW w e = w := by unfold pushW; have : (pushR w e).1 = false := pushR_err hne; rw [this]; rfl
         have hpt : pushT (keptTk kw kt ko lo h) w st e = st := by unfold pushT; have : (pushR w e).1 = false := pushR_err hne; rw [this]; rfl
         rw [hpw, hpt] at hL
         have hL9 := hL.up (H := H) (n := n) (by omega) (fun k hk _ _ => Heap.put_ne _ _ (by omega))
         first | exact hL9 | exact ⟨rfl, hL9⟩)
    · first
      | exact absurd h9 hne
      | (have hL8 := kept_oldL hL
         rw [← hpf] at hL8
         have hL9 := hL8.up (H := H) (n := n) (by omega) (fun k hk _ _ => Heap.put_ne _ _ (by omega))
         first | exact ⟨_, hL9, rfl⟩ | exact ⟨_, rfl, hL9, rfl⟩ | (refine ⟨_, hL9, ?_⟩; rw [hpf]; simp [put2, keptAV, keptO]; done) | (refine ⟨_, hL9, ?_⟩; rw [hpf]; rfl))
      | (rw [← hpf] at hL
         have hL9 := hL.up (H := H) (n := n) (by omega) (fun k hk _ _ => Heap.put_ne _ _ (by omega))
         first | exact ⟨H2, hL9, rfl⟩ | (rw [hne]; exact ⟨H2, rfl, hL9, rfl⟩) | exact ⟨H2, rfl, hL9, rfl⟩)
theorem f_PushE (kw kt ko lo : Nat) (h : KSep kw kt ko lo) (w : Wlk) (st : KSt) (e : Ent) (kf : Nat) (H : Heap) (n : Nat) (hs : StrOK (keptTk kw kt ko lo h) H n kf w st) (hfit : e.fits)
    (hok : KSt.ok st) (hok1 : KSt.ok (preT (keptTk kw kt ko lo h) w st e)) (hok2 : KSt.ok (nt1 (keptTk kw kt ko lo h) (preW w e) (preT (keptTk kw kt ko lo h) w st e) e)) (hwk : WOK w) (hwk2 : WOK (preW w e)) :
    ACalls Try.prog 32 [.loc kf 0 0 0 [], entAV e] H n (FPost kw kt ko lo h kf w st e H n) := by
  refine (f_PushE0 kw kt ko lo h w st e kf H n hs hfit hok hok1 hok2 hwk hwk2).post_adopt fun res H1 n1 ⟨p1, p2⟩ => ?_
  by_cases h0 : (pushR w e).2 = 0
  · right
    obtain ⟨H2, hr, hL, rfl⟩ := p2 h0
    obtain ⟨hlo2, htk2, xs, hxe, hko2, hm2⟩ := hL.tk
    have hkw : kw < n := hs.ah.kw
    have hkt : kt < n := hs.ah.keys kt (.inl rfl)
    have hko : ko < n := hs.ah.keys ko (.inr rfl)
    have hle := hL.le
    have hc := h.c
    have ha := h.a
    have hb := h.b
    have hd := h.d
    have he := h.e
    have hf := h.f
    generalize hst2 : pushF kw kt ko lo h w st e = st2 at *
    have hG : ∀ k, k ≠ kt → k ≠ n1 → ∀ o o' o2, (((H2.put kt o).put n1 o').put kt o2) k = H2 k := fun k g1 g2 o o' o2 => (Heap.put_ne _ _ g1).trans ((Heap.put_ne _ _ g2).trans (Heap.put_ne _ _ g1))
    refine ⟨kt, 0, 9, [keptN kw st2], [keptAV kw n1 { st2 with out := [] }], 7, Heap.put_same _ _ _, ⟨Adp.agg ⟨.refl _ _, .refl _ _, Adp.nilsl _, .refl _ _, .refl _ _, trivial⟩, trivial⟩, fun hne => absurd h0 hne, fun _ => ?_⟩
    refine ⟨n1, n1 + 1, ⟨by omega, by omega, by omega, by omega, by omega, by omega⟩, xs, ?_, hle, by omega, by rw [hst2]; exact hxe, ?_, ?_, by omega, by omega, fun hin => by have := (hm2.in' hin).2; omega, ⟨?_, fun k hk => ?_, ?_, ?_⟩, fun k hk g1 g2 g3 => ?_⟩
    · have hl : st2.out.length = xs.length := by rw [← hxe]; simp
      rw [hr, hl]
    · rw [hG ko (Ne.symm hc) (by omega)]; exact hko2
    · exact hm2.mono (fun k g1 g2 => hG k (by omega) (by omega) _ _ _) (by omega)
    · show kw < n1 + 1; omega
    · rcases hk with rfl | rfl <;> omega
    · show _ = _
      rw [show (keptTk kw kt n1 (n1 + 1) _).kw = kw from rfl, hG kw ha (by omega)]; exact hL.walk
    · rw [hst2]
      exact ⟨Nat.le_refl _, Heap.put_same _ _ _, [], rfl, (Heap.put_ne _ _ (by omega)).trans (Heap.put_same _ _ _), MineL.nil _ _ _⟩
    · rw [hG k g2 (by omega)]; exact hL.rest k hk g1 (fun hh => by rcases hh with hh | hh; exact g2 hh; exact g3 hh)
  · left
    exact ⟨p1, fun h => absurd h h0⟩
end Go.Proofs.Ytijhkfhflpmajaa
namespace Go.Rt
open Go Go.Sx Classical
def famOf (a b : Ent) : Prop := a.fam = b.fam ∧ a.row = b.row
def mates (a b : Ent) : Prop := famOf a b ∧ a.qual = b.qual
def ver (x : Ent) : Prop := x.kind ≠ 4 ∧ x.kind ≠ 5
def over (x e : Ent) : Prop := (x.kind = 5 ∧ famOf x e) ∨ (x.kind = 4 ∧ mates x e)
def grp (x e : Ent) : Prop := ver x ∧ ver e ∧ mates x e ∧ x.ts = e.ts
theorem famOf.symm {a b : Ent} (h : famOf a b) : famOf b a := ⟨h.1.symm, h.2.symm⟩
theorem famOf.trans {a b c : Ent} (h : famOf a b) (h' : famOf b c) : famOf a c := ⟨h.1.trans h'.1, h.2.trans h'.2⟩
theorem mates.symm {a b : Ent} (h : mates a b) : mates b a := ⟨h.1.symm, h.2.symm⟩
theorem mates.trans {a b c : Ent} (h : mates a b) (h' : mates b c) : mates a c := ⟨h.1.trans h'.1, h.2.trans h'.2⟩
theorem famOf.refl (a : Ent) : famOf a a := ⟨rfl, rfl⟩
theorem mates.refl (a : Ent) : mates a a := ⟨⟨rfl, rfl⟩, rfl⟩
theorem grp.symm {a b : Ent} (h : grp a b) : grp b a := ⟨h.2.1, h.1, h.2.2.1.symm, h.2.2.2.symm⟩
theorem grp.trans {a b c : Ent} (h : grp a b) (h' : grp b c) : grp a c := ⟨h.1, h'.2.1, h.2.2.1.trans h'.2.2.1, h.2.2.2.trans h'.2.2.2⟩
theorem grp.refl {a : Ent} (h : ver a) : grp a a := ⟨h, h, .refl a, rfl⟩
theorem compE_eq (a b : Ent) : compE a b = thenC (stepE 0) (thenC (stepE 1) (thenC (stepE 2) (thenC (stepE 3) (thenC (stepE 4) (thenC (stepE 5) (thenC (stepE 6) (thenC (stepE 7) fun _ _ => 0))))))) a b := rfl
def rest2 := thenC (stepE 2) (thenC (stepE 3) (thenC (stepE 4) (thenC (stepE 5) (thenC (stepE 6) (thenC (stepE 7) fun _ _ => 0)))))
def pre2 := thenC (stepE 0) (stepE 1)
theorem compE_2 (a b : Ent) : compE a b = thenC pre2 rest2 a b := by
  rw [compE_eq]; simp only [thenC, pre2, rest2]
  by_cases h0 : stepE 0 a b = 0
  · by_cases h1 : stepE 1 a b = 0 <;> simp [h0, h1]
  · simp [h0]
theorem cok_pre2 : COK pre2 := (cok_step 0).then (cok_step 1)
theorem pre2_zero (a b : Ent) : pre2 a b = 0 ↔ famOf a b := by
  unfold pre2 thenC famOf
  have h0 : stepE 0 a b = 0 ↔ a.row = b.row := cb_zero _ _
  have h1 : stepE 1 a b = 0 ↔ a.fam = b.fam := cmpI_zero _ _
  by_cases h : stepE 0 a b = 0
  · simp [h, h1, h0.1 h]
  · have : a.row ≠ b.row := fun e => h (h0.2 e)
    simp [h, this]
theorem convex {c d : Ent → Ent → Int} (hc : COK c) {a b e : Ent} (h1 : thenC c d a b < 0) (h2 : thenC c d b e < 0) (h : c a e = 0) : c a b = 0 := by
  have g1 : c a b ≤ 0 := by unfold thenC at h1; by_cases h0 : c a b = 0; omega; rw [if_pos h0] at h1; omega
  have g2 : c b e ≤ 0 := by unfold thenC at h2; by_cases h0 : c b e = 0; omega; rw [if_pos h0] at h2; omega
  have g3 := hc.tr b e a g2 (by have := hc.zs h; omega)
  have := hc.neg g3
  omega
theorem famOf_between {a b e : Ent} (h1 : compE a b < 0) (h2 : compE b e < 0) (h : famOf a e) : famOf a b := by
  rw [compE_2] at h1 h2
  exact (pre2_zero _ _).1 (convex cok_pre2 h1 h2 ((pre2_zero _ _).2 h))
def rest4 := thenC (stepE 4) (thenC (stepE 5) (thenC (stepE 6) (thenC (stepE 7) fun _ _ => 0)))
def pre4 := thenC pre2 (thenC (stepE 2) (stepE 3))
theorem compE_4 (a b : Ent) : compE a b = thenC pre4 rest4 a b := by
  rw [compE_2]; simp only [thenC, pre4, rest2, rest4]
  by_cases h0 : pre2 a b = 0
  · by_cases h1 : stepE 2 a b = 0
    · by_cases h2 : stepE 3 a b = 0 <;> simp [h0, h1, h2]
    · simp [h0, h1]
  · simp [h0]
theorem cok_pre4 : COK pre4 := cok_pre2.then ((cok_step 2).then (cok_step 3))
theorem step2_zero {a b : Ent} : stepE 2 a b = 0 ↔ (a.kind = 5 ↔ b.kind = 5) := by
  show firstI 5 a b = 0 ↔ _
  unfold firstI
  by_cases h1 : a.kind = 5 <;> by_cases h2 : b.kind = 5 <;> simp [h1, h2]
theorem step4_zero {a b : Ent} : stepE 4 a b = 0 ↔ (a.kind = 4 ↔ b.kind = 4) := by
  show firstI 4 a b = 0 ↔ _
  unfold firstI
  by_cases h1 : a.kind = 4 <;> by_cases h2 : b.kind = 4 <;> simp [h1, h2]
theorem pre4_zero (a b : Ent) : pre4 a b = 0 ↔ (mates a b ∧ (a.kind = 5 ↔ b.kind = 5)) := by
  have h3 : stepE 3 a b = 0 ↔ a.qual = b.qual := cb_zero _ _
  have e : pre4 a b = if pre2 a b ≠ 0 then pre2 a b else if stepE 2 a b ≠ 0 then stepE 2 a b else stepE 3 a b := rfl
  rw [e]
  by_cases h0 : pre2 a b = 0
  · have hf := (pre2_zero a b).1 h0
    by_cases h2 : stepE 2 a b = 0
    · simp only [h0, h2, ne_eq, not_true_eq_false, if_false, h3]
      exact ⟨fun h => ⟨⟨hf, h⟩, step2_zero.1 h2⟩, fun h => h.1.2⟩
    · simp only [h0, ne_eq, not_true_eq_false, if_false, h2, not_false_eq_true, if_true, false_iff]
      exact fun h => h2 (step2_zero.2 h.2)
  · simp only [h0, ne_eq, not_false_eq_true, if_true, false_iff]
    exact fun h => h0 ((pre2_zero a b).2 h.1.1)
theorem mates_between {a b e : Ent} (h1 : compE a b < 0) (h2 : compE b e < 0) (h : mates a e) (hk : a.kind = 5 ↔ e.kind = 5) : mates a b ∧ (a.kind = 5 ↔ b.kind = 5) := by
  rw [compE_4] at h1 h2
  exact (pre4_zero _ _).1 (convex cok_pre4 h1 h2 ((pre4_zero _ _).2 ⟨h, hk⟩))
theorem fam_first {a b : Ent} (h : compE a b < 0) (hf : famOf a b) (hb : b.kind = 5) : a.kind = 5 := by
  have h0 := (pre2_zero a b).2 hf
  rw [compE_2] at h
  by_cases ha : a.kind = 5
  · exact ha
  · exfalso
    have h2 : stepE 2 a b = 1 := by show firstI 5 a b = 1; simp [firstI, ha, hb]
    simp [thenC, h0, rest2, h2] at h
theorem col_first {a b : Ent} (h : compE a b < 0) (hm : mates a b) (ha5 : a.kind ≠ 5) (hb : b.kind = 4) : a.kind = 4 := by
  have h0 := (pre4_zero a b).2 ⟨hm, by omega⟩
  rw [compE_4] at h
  by_cases ha : a.kind = 4
  · exact ha
  · exfalso
    have h2 : stepE 4 a b = 1 := by show firstI 4 a b = 1; simp [firstI, ha, hb]
    simp [thenC, h0, rest4, h2] at h
theorem newer_first {a b : Ent} (h : compE a b < 0) (hm : mates a b) (h5 : a.kind = 5 ↔ b.kind = 5) (h4 : a.kind = 4 ↔ b.kind = 4) : b.ts < a.ts ∨ (b.ts = a.ts ∧ b.seq ≤ a.seq) := by
  have h0 := (pre4_zero a b).2 ⟨hm, h5⟩
  have h6 := step4_zero.2 h4
  rw [compE_4] at h
  simp only [thenC, h0, rest4, h6, ne_eq, not_true_eq_false, if_false] at h
  have e5 : stepE 5 a b = cmpI b.ts a.ts := rfl
  have e6 : stepE 6 a b = cmpI b.seq a.seq := rfl
  rw [e5, e6] at h
  unfold cmpI at h
  by_cases h1 : b.ts < a.ts
  · exact .inl h1
  · by_cases h2 : a.ts < b.ts
    · simp [h1, h2] at h
    · right
      refine ⟨by omega, ?_⟩
      have e : b.ts = a.ts := by omega
      by_cases h3 : b.seq < a.seq
      · omega
      · by_cases h4 : a.seq < b.seq
        · simp [e, h3, h4] at h
        · omega
end Go.Rt
namespace Go.Rt
open Go Go.Sx Classical
theorem sameFam_iff (a b : Ent) : sameFamE a b = true ↔ famOf a b := by simp [sameFamE, famOf]
theorem sameCol_iff (a b : Ent) : sameColE a b = true ↔ mates a b ∧ a.kind ≠ 5 ∧ b.kind ≠ 5 := by
  unfold sameColE
  simp only [Bool.and_eq_true, sameFam_iff, bne_iff_ne, ne_eq, beq_iff_eq, mates]
  constructor
  · rintro ⟨⟨⟨h1, h2⟩, h3⟩, h4⟩; exact ⟨⟨h1, h4⟩, h2, h3⟩
  · rintro ⟨⟨h1, h4⟩, h2, h3⟩; exact ⟨⟨⟨h1, h2⟩, h3⟩, h4⟩
structure EGood (e : Ent) : Prop where
  ts : 1 ≤ e.ts
  qual : e.kind = 5 → e.qual = []
structure InOrder (m : List Ent) : Prop where
  srt : m.Pairwise fun a b => compE a b < 0
  seq : m.Pairwise fun a b => a.seq ≠ b.seq
  good : ∀ e ∈ m, EGood e
section
variable (s : List Fml) (clock : Int) (m : List Ent)
def masked (e : Ent) : Prop := ∃ x ∈ m, over x e ∧ e.ts ≤ x.ts
def expd (e : Ent) : Prop := 0 < (famAt s e.fam).ttl ∧ e.ts + (famAt s e.fam).ttl ≤ clock
def isOut (e : Ent) : Prop := masked m e ∨ expd s clock e
def first (e : Ent) : Prop := ver e ∧ ∀ x ∈ m, grp x e → x.seq ≤ e.seq
def lone (e : Ent) : Prop := ∀ x ∈ m, grp x e → x.kind = 3
def counted (e : Ent) : Prop := first m e ∧ ¬ isOut s clock m e ∧ ¬ lone m e
noncomputable def above (e : Ent) : Nat := (m.filter fun x => decide (counted s clock m x ∧ mates x e ∧ e.ts < x.ts)).length
noncomputable def decD (e : Ent) : Dec := ⟨e, decide (e.kind = 2 ∨ e.kind = 3 ∧ ¬ lone m e), decide (lone m e), decide (masked m e), decide (expd s clock e), if counted s clock m e then (above s clock m e : Int) + 1 else 0⟩
def top5 (e : Ent) : Prop := ∀ x ∈ m, x.kind = 5 → famOf x e → x.ts < e.ts ∨ x.ts = e.ts ∧ x.seq ≤ e.seq
def top4 (e : Ent) : Prop := (∀ x ∈ m, x.kind = 4 → mates x e → x.ts < e.ts ∨ x.ts = e.ts ∧ x.seq ≤ e.seq) ∧ ∀ x ∈ m, x.kind = 5 → famOf x e → x.ts < e.ts
noncomputable def evD (e : Ent) : List Ev :=
  if e.kind = 5 then [.m e (decide (top5 m e))] else if e.kind = 4 then [.m e (decide (top4 m e))] else if first m e then [.g (decD s clock m e)] else []
end
def notO : Ev → Bool
  | .o => false
  | _ => true
noncomputable def pend (s : List Fml) (clock : Int) (m : List Ent) (w : Wlk) : List Ev := if w.opn = true then [.g (decD s clock m w.ge)] else []
structure Inv (s : List Fml) (clock : Int) (m p : List Ent) (w : Wlk) (x : Ent) : Prop where
  hs : w.s = s
  hc : w.clock = clock
  any : w.any = true
  last : w.last = x
  xp : x ∈ p
  mx : ∀ y ∈ p, y = x ∨ compE y x < 0
  fm : ∀ y ∈ p, y.kind = 5 → famOf y x → y.ts ≤ w.famMask
  fm0 : w.famMask = 0 ∨ ∃ y ∈ p, y.kind = 5 ∧ famOf y x ∧ y.ts = w.famMask
  cm : ∀ y ∈ p, y.kind = 4 → mates y x → y.ts ≤ w.colMask
  cm0 : w.colMask = 0 ∨ ∃ y ∈ p, y.kind = 4 ∧ mates y x ∧ y.ts = w.colMask
  rk : w.rank = ((p.filter fun y => decide (counted s clock m y ∧ mates y x ∧ x.ts < y.ts)).length : Nat)
  op : w.opn = true ↔ ver x
  gr : w.opn = true → w.ge ∈ p ∧ grp w.ge x ∧ first m w.ge ∧ (w.lone = true ↔ ∀ y ∈ p, grp y x → y.kind = 3)
theorem ends_false {w : Wlk} {e : Ent} (ho : w.opn = true) (hv : ver w.ge) : endsE w e = false ↔ grp w.ge e := by
  unfold endsE
  rw [ho]
  simp only [cond_true]
  have hsc := sameCol_iff w.ge e
  cases h1 : sameColE w.ge e with
  | false =>
    simp only [Bool.not_false, cond_true, Bool.true_eq_false, false_iff]
    intro h
    have : sameColE w.ge e = true := hsc.2 ⟨h.2.2.1, hv.2, h.2.1.2⟩
    rw [h1] at this; simp at this
  | true =>
    obtain ⟨hm, h5, h5'⟩ := hsc.1 h1
    simp only [Bool.not_true, cond_false]
    cases h2 : (w.ge.ts != e.ts) with
    | true =>
      simp only [cond_true, Bool.true_eq_false, false_iff]
      intro h
      simp at h2
      exact h2 h.2.2.2
    | false =>
      simp only [cond_false]
      simp at h2
      constructor
      · intro h; simp at h; exact ⟨hv, ⟨h, h5'⟩, hm, h2⟩
      · intro h; simpa using h.2.1.1
theorem nx4_fields {w : Wlk} {x e : Ent} (hany : w.any = true) (hlast : w.last = x) :
    (nx4 (nx3 (nx2 (nx1 w e) e) e) e) = { nx1 w e with
      famMask := if famOf x e then w.famMask else 0
      colMask := if mates x e ∧ x.kind ≠ 5 ∧ e.kind ≠ 5 then w.colMask else 0
      rank := if mates x e ∧ x.kind ≠ 5 ∧ e.kind ≠ 5 then (nx1 w e).rank else 0
      any := true, last := e } := by
  have h1 : (nx1 w e).any = true ∧ (nx1 w e).last = x ∧ (nx1 w e).famMask = w.famMask ∧ (nx1 w e).colMask = w.colMask := by
    unfold nx1 closeW
    cases endsE w e <;> simp only [cond_true, cond_false]
    · exact ⟨hany, hlast, trivial, trivial⟩
    · split <;> (refine ⟨?_, ?_, ?_, ?_⟩ <;> simp [hany, hlast])
  generalize nx1 w e = v at *
  obtain ⟨h1, h2, h3, h4⟩ := h1
  have hf := sameFam_iff x e
  have hc := sameCol_iff x e
  unfold nx4 nx3 nx2 newFam newCol
  rw [h1, h2]
  simp only [cond_true]
  by_cases hF : famOf x e
  · have hF' := hf.2 hF
    by_cases hC : mates x e ∧ x.kind ≠ 5 ∧ e.kind ≠ 5
    · have hC' := hc.2 hC
      simp [hF', hC', hF, hC, h1, h2, h3, h4]
    · have hC' : sameColE x e = false := by cases h : sameColE x e; rfl; exact absurd (hc.1 h) hC
      simp [hF', hC', hF, hC, h1, h2, h3, h4]
  · have hF' : sameFamE x e = false := by cases h : sameFamE x e; rfl; exact absurd (hf.1 h) hF
    have hC : ¬ (mates x e ∧ x.kind ≠ 5 ∧ e.kind ≠ 5) := fun h => hF h.1.1
    have hC' : sameColE x e = false := by cases h : sameColE x e; rfl; exact absurd (hc.1 h) hC
    simp [hF', hC', hF, hC, h1, h2, h3, h4]
theorem count_split {p : List Ent} {A B C : Ent → Prop} [DecidablePred A] [DecidablePred B] [DecidablePred C] (h1 : ∀ y ∈ p, A y ↔ (B y ∨ C y)) (h2 : ∀ y ∈ p, ¬ (B y ∧ C y)) :
    (p.filter fun y => decide (A y)).length = (p.filter fun y => decide (B y)).length + (p.filter fun y => decide (C y)).length := by
  induction p with
  | nil => rfl
  | cons x p ih =>
    have ih := ih (fun y hy => h1 y (by simp [hy])) (fun y hy => h2 y (by simp [hy]))
    have hx := h1 x (by simp)
    have hx2 := h2 x (by simp)
    by_cases hb : B x
    · have hc : ¬ C x := fun hc => hx2 ⟨hb, hc⟩
      have ha : A x := hx.2 (.inl hb)
      simp [List.filter_cons, ha, hb, hc, ih]; omega
    · by_cases hc : C x
      · have ha : A x := hx.2 (.inr hc)
        simp [List.filter_cons, ha, hb, hc, ih]; omega
      · have ha : ¬ A x := fun ha => (hx.1 ha).elim hb hc
        simp [List.filter_cons, ha, hb, hc, ih]
theorem count_same {p : List Ent} {A B : Ent → Prop} [DecidablePred A] [DecidablePred B] (h1 : ∀ y ∈ p, A y ↔ B y) : (p.filter fun y => decide (A y)).length = (p.filter fun y => decide (B y)).length := by
  have : (p.filter fun y => decide (A y)) = p.filter fun y => decide (B y) := List.filter_congr fun y hy => by simp [h1 y hy]
  rw [this]
theorem count_none {p : List Ent} {A : Ent → Prop} [DecidablePred A] (h1 : ∀ y ∈ p, ¬ A y) : (p.filter fun y => decide (A y)).length = 0 := by
  rw [List.length_eq_zero_iff, List.filter_eq_nil_iff]
  intro y hy; simpa using h1 y hy
theorem count_one {p : List Ent} (hn : p.Pairwise fun a b => a.seq ≠ b.seq) {g : Ent} (hg : g ∈ p) (K : Prop) [Decidable K] : (p.filter fun y => decide (y = g ∧ K)).length = if K then 1 else 0 := by
  induction p with
  | nil => cases hg
  | cons x p ih =>
    obtain ⟨hx, hn⟩ := List.pairwise_cons.1 hn
    by_cases hK : K
    · rw [if_pos hK]
      by_cases e : x = g
      · subst e
        have : (p.filter fun y => decide (y = x ∧ K)).length = 0 := count_none (A := fun y => y = x ∧ K) fun y hy ⟨e, _⟩ => hx y hy (by rw [e])
        simp [List.filter_cons, hK] at this ⊢
        exact this
      · have hg' : g ∈ p := by rcases List.mem_cons.1 hg with h | h; exact absurd h.symm e; exact h
        have := ih hn hg'
        rw [if_pos hK] at this
        simp [List.filter_cons, e, hK] at this ⊢
        exact this
    · rw [if_neg hK]
      exact count_none (A := fun y => y = g ∧ K) fun y _ h => hK h.2
section
variable {s : List Fml} {clock : Int} {m p q : List Ent} {w : Wlk} {x e : Ent}
theorem InOrder.parts (hm : InOrder m) (he : m = p ++ q) : (∀ y ∈ p, ∀ z ∈ q, compE y z < 0) ∧ (p.Pairwise fun a b => a.seq ≠ b.seq) ∧ ∀ y ∈ p, ∀ z ∈ q, y.seq ≠ z.seq := by
  subst he
  have h1 := List.pairwise_append.1 hm.srt
  have h2 := List.pairwise_append.1 hm.seq
  exact ⟨h1.2.2, h2.1, h2.2.2⟩
theorem comp_asym {a b : Ent} (h : compE a b < 0) : ¬ compE b a < 0 := by
  have := (cok_comp.anti a b).1 h; omega
theorem comp_irr (a : Ent) : ¬ compE a a < 0 := by have := cok_comp.refl a; omega
theorem over_before (hm : InOrder m) (he : m = p ++ q) {g z : Ent} (hg : g ∈ p) (hv : ver g) (hz : z ∈ m) (ho : over z g) : z ∈ p := by
  rw [he] at hz
  rcases List.mem_append.1 hz with h | h
  · exact h
  · exfalso
    have hgz := (hm.parts he).1 g hg z h
    rcases ho with ⟨h5, hf⟩ | ⟨h4, hmt⟩
    · exact hv.2 (fam_first hgz hf.symm h5)
    · exact hv.1 (col_first hgz hmt.symm hv.2 h4)
theorem ver_before (hm : InOrder m) (he : m = p ++ q) {g z : Ent} (hg : g ∈ p) (hv : ver g) (hz : z ∈ q) (hvz : ver z) (hmt : mates z g) : z.ts < g.ts ∨ (z.ts = g.ts ∧ z.seq ≤ g.seq) :=
  newer_first ((hm.parts he).1 g hg z hz) hmt.symm ⟨fun h => absurd h hv.2, fun h => absurd h hvz.2⟩ ⟨fun h => absurd h hv.1, fun h => absurd h hvz.1⟩
theorem close_eq (hm : InOrder m) (he : m = p ++ q) (hi : Inv s clock m p w x) (ho : w.opn = true) (hall : ∀ z ∈ m, grp z w.ge → z ∈ p) :
    decOf w = decD s clock m w.ge ∧ (closeW w).rank = w.rank + if counted s clock m w.ge then 1 else 0 := by
  obtain ⟨hgp, hgx, hgf, hgl⟩ := hi.gr ho
  have hpm : ∀ y ∈ p, y ∈ m := fun y hy => by rw [he]; exact List.mem_append_left _ hy
  have hts := (hm.good _ (hpm _ hgp)).ts
  have hmk : (w.ge.ts ≤ max w.famMask w.colMask) ↔ masked m w.ge := by
    constructor
    · intro h
      have h' : w.ge.ts ≤ w.famMask ∨ w.ge.ts ≤ w.colMask := by omega
      rcases h' with h' | h'
      · rcases hi.fm0 with h0 | ⟨y, hy, h5, hf, hyt⟩
        · omega
        · exact ⟨y, hpm y hy, .inl ⟨h5, hf.trans hgx.2.2.1.symm.1⟩, by omega⟩
      · rcases hi.cm0 with h0 | ⟨y, hy, h4, hf, hyt⟩
        · omega
        · exact ⟨y, hpm y hy, .inr ⟨h4, hf.trans hgx.2.2.1.symm⟩, by omega⟩
    · rintro ⟨y, hy, hov, hyt⟩
      have hyp := over_before hm he hgp hgx.1 hy hov
      rcases hov with ⟨h5, hf⟩ | ⟨h4, hf⟩
      · have := hi.fm y hyp h5 (hf.trans hgx.2.2.1.1); omega
      · have := hi.cm y hyp h4 (hf.trans hgx.2.2.1); omega
  have hln : w.lone = true ↔ lone m w.ge := by
    rw [hgl]
    constructor
    · intro h y hy hg; exact h y (hall y hy hg) (hg.trans hgx)
    · intro h y hy hg; exact h y (hpm y hy) (hg.trans hgx.symm)
  have hex : (bif decide (0 < (famAt w.s w.ge.fam).ttl) then decide (w.ge.ts + (famAt w.s w.ge.fam).ttl ≤ w.clock) else false) = decide (expd s clock w.ge) := by
    rw [hi.hs, hi.hc]
    unfold expd
    by_cases h : 0 < (famAt s w.ge.fam).ttl <;> simp [h]
  have hrk : w.rank = (above s clock m w.ge : Nat) := by
    rw [hi.rk]
    congr 1
    unfold above
    have h3 : ∀ F : Ent → Bool, (m.filter F).length = (p.filter F).length + (q.filter F).length := fun F => by rw [he, List.filter_append, List.length_append]
    rw [h3]
    have h2 : (q.filter fun y => decide (counted s clock m y ∧ mates y w.ge ∧ w.ge.ts < y.ts)).length = 0 := count_none (A := fun y => counted s clock m y ∧ mates y w.ge ∧ w.ge.ts < y.ts) fun y hy ⟨hc, hmt, hlt⟩ => by
      have := ver_before hm he hgp hgx.1 hy hc.1.1 hmt; omega
    rw [h2, Nat.add_zero]
    refine count_same fun y hy => ?_
    rw [hgx.2.2.2]
    exact ⟨fun ⟨a, b, c⟩ => ⟨a, b.trans hgx.2.2.1.symm, c⟩, fun ⟨a, b, c⟩ => ⟨a, b.trans hgx.2.2.1, c⟩⟩
  have hlb : w.lone = decide (lone m w.ge) := by
    by_cases h : lone m w.ge
    · simp [h, hln.2 h]
    · simp only [h, decide_false]; cases hw : w.lone; rfl; exact absurd (hln.1 hw) h
  have hmb : decide (w.ge.ts ≤ max w.famMask w.colMask) = decide (masked m w.ge) := by simp only [hmk]
  have hout : outD (dec0 w) = decide (isOut s clock m w.ge) := by
    unfold outD dec0 isOut
    simp only [hmb, hex]
    by_cases h1 : masked m w.ge <;> by_cases h2 : expd s clock w.ge <;> simp [h1, h2]
  have hcnt : (!outD (dec0 w) && !w.lone) = decide (counted s clock m w.ge) := by
    rw [hout, hlb]
    unfold counted
    by_cases h1 : isOut s clock m w.ge <;> by_cases h2 : lone m w.ge <;> simp [h1, h2, hgf]
  have hd0 : dec0 w = { decD s clock m w.ge with rank := 0 } := by
    unfold dec0 decD
    simp only [hmb, hex]
    rw [hlb]
    by_cases h2 : w.ge.kind = 2
    · simp [h2]
    · by_cases h3 : w.ge.kind = 3
      · by_cases h4 : lone m w.ge <;> simp [h3, h4]
      · simp [h2, h3]
  constructor
  · unfold decOf
    rw [hcnt, hd0]
    by_cases hc : counted s clock m w.ge
    · simp only [hc, decide_true, cond_true, decD, if_true]; rw [hrk]
    · simp only [hc, decide_false, cond_false, decD, if_false]
  · unfold closeW
    rw [if_neg (by rw [ho]; decide)]
    show (bif !outD (dec0 w) && !w.lone then w.rank + 1 else w.rank) = _
    rw [hcnt]
    by_cases hc : counted s clock m w.ge <;> simp [hc]
end
end Go.Rt