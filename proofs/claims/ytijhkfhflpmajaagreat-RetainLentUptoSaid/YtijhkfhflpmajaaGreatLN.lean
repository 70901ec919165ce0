/- Own layer: the caller's own list changed in place, looked at, copied. Of the program; no condition. -/
import Derived.Test.YtijhkfhflpmajaaGreatLL
set_option linter.unusedSimpArgs false
set_option linter.unusedVariables false
namespace Go.Proofs.YtijhkfhflpmajaaGreat
open Go Go.Sx Go.Rt Go.Proofs

structure TurnE where
  kind : Int
  at' : Int
  by' : Int
  deriving Inhabited
def turnAV (t : TurnE) : AV := .agg [.int .i64 t.kind, .int .i64 t.at', .int .i64 t.by']
def turnsAV (l : List TurnE) : AV := .sl 3 (l.map turnAV)
attribute [go_sem] turnAV turnsAV
theorem turnAV_sz (t : TurnE) : (turnAV t).sz = 3 := rfl
def bentE (t : TurnE) (e : Ent) : Ent :=
  if t.kind = 0 then { e with row := putB e.row t.by' } else if t.kind = 1 then { e with qual := putB e.qual t.by' } else if t.kind = 2 then { e with value := putB e.value t.by' }
  else if t.kind = 3 then { e with ts := t.by' } else if t.kind = 4 then { e with seq := t.by' } else if t.kind = 5 then { e with kind := t.by' } else if t.kind = 6 then { e with fam := t.by' } else e
def bentL (t : TurnE) (l : List Ent) : List Ent := if l = [] then l else l.set (spotN t.at' l.length) (bentE t (l.getD (spotN t.at' l.length) default))
/-- alike but for what the bytes are -/
structure SameLen (a b : Ent) : Prop where
  r : a.row.length = b.row.length
  q : a.qual.length = b.qual.length
  v : a.value.length = b.value.length
theorem bentE_len (t : TurnE) (e : Ent) : SameLen (bentE t e) e := by
  unfold bentE
  repeat' split
  all_goals exact ⟨by first | rfl | exact putB_len _ _, by first | rfl | exact putB_len _ _, by first | rfl | exact putB_len _ _⟩
theorem bentL_len (t : TurnE) (l : List Ent) : (bentL t l).length = l.length := by unfold bentL; split <;> simp
theorem bentL_ok {m : Nat} {t : TurnE} {l : List Ent} (h : ∀ e ∈ l, e.row.length ≤ m ∧ e.qual.length ≤ m ∧ e.value.length ≤ m) : ∀ e ∈ bentL t l, e.row.length ≤ m ∧ e.qual.length ≤ m ∧ e.value.length ≤ m := by
  unfold bentL
  split
  · exact h
  · rename_i hne
    intro e he
    rcases List.mem_or_eq_of_mem_set he with h9 | h9
    · exact h e h9
    · have hl : 0 < l.length := by cases l <;> simp_all
      have hs := spotN_lt t.at' hl
      have h1 := h (l.getD (spotN t.at' l.length) default) (by simp [List.getD, List.getElem?_eq_getElem hs])
      obtain ⟨a, b, c⟩ := bentE_len t (l.getD (spotN t.at' l.length) default)
      rw [h9]; omega

theorem lxs_get (n : Nat) (l : List Ent) : ∀ N j, (lxs n l N)[j]? = if j < N then some (lx n j (l.getD j default)) else none
  | 0, j => by simp [lxs]
  | N + 1, j => by
    rw [lxs]
    rcases Nat.lt_or_ge j N with h | h
    · rw [List.getElem?_append_left (by rw [lxs_len]; exact h), lxs_get n l N j, if_pos h, if_pos (by omega)]
    · rw [List.getElem?_append_right (by rw [lxs_len]; exact h), lxs_len]
      rcases Nat.eq_or_lt_of_le h with h9 | h9
      · subst h9; simp
      · rw [if_neg (by omega), List.getElem?_eq_none (by simp; omega)]
theorem getD_set (l : List Ent) (i j : Nat) (e : Ent) (hi : i < l.length) : (l.set i e).getD j default = if j = i then e else l.getD j default := by
  unfold List.getD
  rw [List.getElem?_set]
  by_cases h : i = j
  · subst h; simp [hi]
  · have : ¬ j = i := fun h9 => h h9.symm
    simp [h, this]
theorem lxs_set (n : Nat) (l : List Ent) (i : Nat) (e : Ent) (hi : i < l.length) : lxs n (l.set i e) l.length = (lxs n l l.length).set i (lx n i e) := by
  apply List.ext_getElem?
  intro j
  rw [lxs_get, List.getElem?_set, lxs_get, lxs_len]
  by_cases h : i = j
  · subst h; simp [hi, getD_set]
  · rw [if_neg h]
    by_cases hj : j < l.length
    · rw [if_pos hj, if_pos hj, getD_set _ _ _ _ hi, if_neg (by omega)]
    · rw [if_neg hj, if_neg hj]
theorem wx_set (n : Nat) (l : List Ent) (i : Nat) (e : Ent) (hi : i < l.length) (he : SameLen e (l.getD i default)) : ∀ N, wx n (l.set i e) N = wx n l N
  | 0 => rfl
  | N + 1 => by
    rw [wx, wx, wx_set n l i e hi he N, getD_set _ _ _ _ hi]
    congr 1
    split
    · rename_i h; subst h
      obtain ⟨a, b, c⟩ := he
      simp only [wx3, a, b, c]
    · rfl
/-- one entry of the room is another one -/
theorem Laid.upd {H H' : Heap} {n : Nat} {l : List Ent} (h : Laid H n l) {i : Nat} {e : Ent} (hi : i < l.length) (he : SameLen e (l.getD i default)) (h0 : H' n = H n) (h2 : H' (n + 2) = H (n + 2))
    (h1 : H' (n + 1) = some (.arr (l.length + 1) 7 (((lxs n l l.length).map lentAV).set i (lentAV (lx n i e)) ++ [mkE (-9)]))) (hb : Lain H' n i e) (hj : ∀ j, j < l.length → j ≠ i → ∀ k, n + 3 + 4 * j ≤ k → k ≤ n + 5 + 4 * j → H' k = H k) : Laid H' n (l.set i e) := by
  refine ⟨?_, ?_, ?_, ?_⟩
  · rw [List.length_set]; exact h0.trans h.room
  · rw [List.length_set, lxs_set n l i e hi, List.map_set]; exact h1
  · rw [List.length_set, wx_set n l i e hi he]; exact h2.trans h.ws
  · intro j hjl
    rw [List.length_set] at hjl
    rw [getD_set _ _ _ _ hi]
    split
    · rename_i h9; subst h9; exact hb
    · rename_i h9; exact (h.bs j hjl).mono (hj j hjl h9)

theorem Laid.mono {H H' : Heap} {n : Nat} {l : List Ent} (h : Laid H n l) (hH : ∀ k, n ≤ k → k < n + 3 + 4 * l.length → H' k = H k) : Laid H' n l :=
  ⟨(hH _ (by omega) (by omega)).trans h.room, (hH _ (by omega) (by omega)).trans h.ls, (hH _ (by omega) (by omega)).trans h.ws, fun j hj => (h.bs j hj).mono fun k h1 h2 => hH k (by omega) (by omega)⟩
theorem set_same {α : Type} {l : List α} {i : Nat} {x : α} (h : l[i]? = some x) : l.set i x = l := by
  apply List.ext_getElem?
  intro j
  rw [List.getElem?_set]
  by_cases hj : i = j
  · subst hj
    rw [if_pos rfl, h]
    have : i < l.length := by
      rcases Nat.lt_or_ge i l.length with h9 | h9
      · exact h9
      · rw [List.getElem?_eq_none h9] at h; cases h
    simp [this]
  · rw [if_neg hj]

set_option maxRecDepth 100000 in
set_option maxHeartbeats 4000000 in
theorem c_law_bent (l : List Ent) (hl : l.length ≤ 1048576) (hf : ∀ e ∈ l, e.row.length ≤ 1048576 ∧ e.qual.length ≤ 1048576 ∧ e.value.length ≤ 1048576) (t : TurnE) (H : Heap) (n n0 : Nat) (hn0 : n0 + 3 + 4 * l.length ≤ n) (hL : Laid H n0 l) :
    ACalls Tryz.prog 27 [.osl (n0 + 1) (l.length + 1) 0 l.length, turnAV t] H n fun res H' n' => res = .val (.tup []) ∧ n ≤ n' ∧ Laid H' n0 (bentL t l) ∧ ∀ k, k < n0 → H' k = H k := by
  have hls := hL.ls
  refine acalls_of_awp Tryz.func27 rfl Tryz.ntmps27 (congrArg Array.toList Tryz.results27) (by simp) ?_
  simp only [go_sem]
  refine awp_rq zs [0, 3] ?_
  refine awp_seq_k fun K1 hK1 => ?_
  refine awp_rq zs [0, 3, 7] ?_
  refine awp_cnd (fun hb => ?_) (fun hb => ?_)
  ·skip
   have h7 : l = [] := by simp at hb; exact hb
   have hend : bentL t l = l := if_pos h7
   refine awp_ret ?_
   try simp only [go_sem, ↓reduceIte, Nat.reduceEqDiff, Nat.reduceLT, Nat.reduceSub, Nat.reduceAdd, Nat.reduceMul]
   first
   | (refine ⟨by omega, by rw [hend]; exact hL.mono fun k h1 h2 => Heap.put_ne _ _ (by omega), fun k hk => by rw [if_neg (by omega)]⟩; done)
   | (rw [hend, hbe, set_same hgl]; refine ⟨by omega, hL.mono fun k h1 h2 => Heap.put_ne _ _ (by omega), fun k hk => by rw [if_neg (by omega)]⟩; done)
   | (have hsm : lentAV (lx n0 i (bentE t e)) = lentAV (lx n0 i e) := by rw [hbe]; simp [lx, lentAV, Lp.av, putB_len]
      rw [hend]
      refine ⟨by omega, hL.upd hsp (by rw [he]; exact hbl) ((hp2 _ (by omega)).trans (Heap.put_ne _ _ (by omega))) ((hp2 _ (by omega)).trans (Heap.put_ne _ _ (by omega))) ((hp2 _ (by omega)).trans ((Heap.put_ne _ _ (by omega)).trans (by rw [hls, hsm, set_same hgA]))) (by rw [hbe]; exact ⟨hp1, (hp2 _ (by omega)).trans ((Heap.put_ne _ _ (by omega)).trans hlain.q), (hp2 _ (by omega)).trans ((Heap.put_ne _ _ (by omega)).trans hlain.v)⟩) (fun j hj hji k h1 h2 => (hp2 _ (by omega)).trans (Heap.put_ne _ _ (by omega))), fun k hk => (hp2 _ (by omega)).trans (Heap.put_ne _ _ (by omega))⟩; done)
   | (have hsm : lentAV (lx n0 i (bentE t e)) = lentAV (lx n0 i e) := by rw [hbe]; simp [lx, lentAV, Lp.av, putB_len]
      rw [hend]
      refine ⟨by omega, hL.upd hsp (by rw [he]; exact hbl) ((hp2 _ (by omega)).trans (Heap.put_ne _ _ (by omega))) ((hp2 _ (by omega)).trans (Heap.put_ne _ _ (by omega))) ((hp2 _ (by omega)).trans ((Heap.put_ne _ _ (by omega)).trans (by rw [hls, hsm, set_same hgA]))) (by rw [hbe]; exact ⟨(hp2 _ (by omega)).trans ((Heap.put_ne _ _ (by omega)).trans hlain.r), hp1, (hp2 _ (by omega)).trans ((Heap.put_ne _ _ (by omega)).trans hlain.v)⟩) (fun j hj hji k h1 h2 => (hp2 _ (by omega)).trans (Heap.put_ne _ _ (by omega))), fun k hk => (hp2 _ (by omega)).trans (Heap.put_ne _ _ (by omega))⟩; done)
   | (have hsm : lentAV (lx n0 i (bentE t e)) = lentAV (lx n0 i e) := by rw [hbe]; simp [lx, lentAV, Lp.av, putB_len]
      rw [hend]
      refine ⟨by omega, hL.upd hsp (by rw [he]; exact hbl) ((hp2 _ (by omega)).trans (Heap.put_ne _ _ (by omega))) ((hp2 _ (by omega)).trans (Heap.put_ne _ _ (by omega))) ((hp2 _ (by omega)).trans ((Heap.put_ne _ _ (by omega)).trans (by rw [hls, hsm, set_same hgA]))) (by rw [hbe]; exact ⟨(hp2 _ (by omega)).trans ((Heap.put_ne _ _ (by omega)).trans hlain.r), (hp2 _ (by omega)).trans ((Heap.put_ne _ _ (by omega)).trans hlain.q), hp1⟩) (fun j hj hji k h1 h2 => (hp2 _ (by omega)).trans (Heap.put_ne _ _ (by omega))), fun k hk => (hp2 _ (by omega)).trans (Heap.put_ne _ _ (by omega))⟩; done)
   | (rw [hend]
      refine ⟨by omega, hL.upd hsp (by rw [he]; exact hbl) ((Heap.put_ne _ _ (by omega)).trans (Heap.put_ne _ _ (by omega))) ((Heap.put_ne _ _ (by omega)).trans (Heap.put_ne _ _ (by omega))) ((Heap.put_same _ _ _).trans (by rw [hbe, List.set_append_left _ _ (by simp [lxs_len]; exact hsp)]; rfl)) (by rw [hbe]; exact ⟨(Heap.put_ne _ _ (by omega)).trans ((Heap.put_ne _ _ (by omega)).trans hlain.r), (Heap.put_ne _ _ (by omega)).trans ((Heap.put_ne _ _ (by omega)).trans hlain.q), (Heap.put_ne _ _ (by omega)).trans ((Heap.put_ne _ _ (by omega)).trans hlain.v)⟩) (fun j hj hji k h1 h2 => (Heap.put_ne _ _ (by omega)).trans (Heap.put_ne _ _ (by omega))), fun k hk => by rw [if_neg (by omega), if_neg (by omega)]⟩; done)
  ·skip
   have h7 : ¬ l = [] := by simp at hb; exact hb
   have hl0 : 0 < l.length := List.length_pos_iff.2 h7
   have hsp := spotN_lt t.at' hl0
   have hend : bentL t l = l.set (spotN t.at' l.length) (bentE t (l.getD (spotN t.at' l.length) default)) := if_neg h7
   refine awp_skip ?_
   try simp only [go_sem, ↓reduceIte, Nat.reduceEqDiff, Nat.reduceLT, Nat.reduceSub, Nat.reduceAdd, Nat.reduceMul]
   refine hK1 _ _ _ ?_
   first | clear hK1 K1 | skip
   have r1 : (n0 + 1 = n) = False := by simp; omega
   have r2 : (n = n0 + 1) = False := by simp; omega
   refine awp_reg zs [3, 4] fun K hK => ?_
   try simp only [go_sem, ↓reduceIte, Nat.reduceEqDiff, Nat.reduceLT, Nat.reduceSub, Nat.reduceAdd, Nat.reduceMul, Int.toNat_natCast, hls, r1, r2]
   repeat refine peel ?_
   refine callK_use Tryz.func54 rfl rfl rfl ((c_law_spot t.at' l.length hl0 (by omega) _ _)) ?_
   try simp only [go_sem, ↓reduceIte, Nat.reduceEqDiff, Nat.reduceLT, Nat.reduceSub, Nat.reduceAdd, Nat.reduceMul, Int.toNat_natCast, hls, r1, r2]
   repeat refine peel ?_
   refine hK _ _ _ ?_; clear hK K
   generalize hi : spotN t.at' l.length = i at *
   have hfe := hf (l.getD i default) (by simp [List.getD, List.getElem?_eq_getElem hsp])
   have hbl := bentE_len t (l.getD i default)
   have hlain := hL.bs i hsp
   have hnth : nth ((lxs n0 l l.length).map lentAV ++ [mkE (-9)]) i = lentAV (lx n0 i (l.getD i default)) := by
     unfold nth; rw [List.getD, List.getElem?_append_left (by simp [lxs_len]; exact hsp), List.getElem?_map, lxs_get, if_pos hsp]; rfl
   have hlen : i < ((lxs n0 l l.length).map lentAV ++ [mkE (-9)]).length := by simp [lxs_len]; omega
   have hgA : ((lxs n0 l l.length).map lentAV)[i]? = some (lentAV (lx n0 i (l.getD i default))) := by rw [List.getElem?_map, lxs_get, if_pos hsp]; rfl
   have hgl : l[i]? = some (l.getD i default) := by simp [List.getD, List.getElem?_eq_getElem hsp]
   generalize he : l.getD i default = e at *
   refine awp_rq zs [3, 4, 16] ?_
   refine awp_block ?_
   refine awp_reg zs [3, 4, 16, 17] fun K hK => ?_
   try simp only [go_sem, ↓reduceIte, Nat.reduceEqDiff, Nat.reduceLT, Nat.reduceSub, Nat.reduceAdd, Nat.reduceMul, hls, hnth, r1, r2, lx, Lp.av]
   repeat refine peel ?_
   refine hK _ _ _ ?_; clear hK K
   refine awp_cnd (fun hb => ?_) (fun hb => ?_)
   ·skip
    have g0 : t.kind = 0 := by simpa using hb
    have hbe : bentE t e = { e with row := putB e.row t.by' } := by unfold bentE; rw [if_pos g0]
    refine awp_drw1 rfl zs [] [.m, .q, .q, .q, .q, .q, .w []] (by kernel_rfl) (fun _ _ _ _ _ h => h) fun K hK => ?_
    try simp only [go_sem, ↓reduceIte, Nat.reduceEqDiff, Nat.reduceLT, Nat.reduceSub, Nat.reduceAdd, Nat.reduceMul, hls, hnth, r1, r2, lx, Lp.av]
    repeat refine peel ?_
    refine callK_useK (args' := [.osl (n0 + 3 + 4 * i) 2 0 e.row.length, .int .i64 t.by']) Tryz.func55 rfl rfl rfl (c_law_put (n0 + 3 + 4 * i) e.row (by omega) t.by' _ _ ((Heap.put_ne _ _ (by omega)).trans hlain.r)) ?_ ?_
    rotate_left
    · intro p H' n' h; cases h.1
    rintro r H3 n3 ⟨hr3, hn3, hp1, hp2⟩
    cases hr3
    try simp only [go_sem, ↓reduceIte, Nat.reduceEqDiff, Nat.reduceLT, Nat.reduceSub, Nat.reduceAdd, Nat.reduceMul, hls, hnth, r1, r2, lx, Lp.av]
    repeat refine peel ?_
    refine hK _ _ _ ?_; clear hK K
    try simp only [go_sem, ↓reduceIte, Nat.reduceEqDiff, Nat.reduceLT, Nat.reduceSub, Nat.reduceAdd, Nat.reduceMul]
    try simp only [go_sem, ↓reduceIte, Nat.reduceEqDiff, Nat.reduceLT, Nat.reduceSub, Nat.reduceAdd, Nat.reduceMul]
    first
    | (refine ⟨by omega, by rw [hend]; exact hL.mono fun k h1 h2 => Heap.put_ne _ _ (by omega), fun k hk => by rw [if_neg (by omega)]⟩; done)
    | (rw [hend, hbe, set_same hgl]; refine ⟨by omega, hL.mono fun k h1 h2 => Heap.put_ne _ _ (by omega), fun k hk => by rw [if_neg (by omega)]⟩; done)
    | (have hsm : lentAV (lx n0 i (bentE t e)) = lentAV (lx n0 i e) := by rw [hbe]; simp [lx, lentAV, Lp.av, putB_len]
       rw [hend]
       refine ⟨by omega, hL.upd hsp (by rw [he]; exact hbl) ((hp2 _ (by omega)).trans (Heap.put_ne _ _ (by omega))) ((hp2 _ (by omega)).trans (Heap.put_ne _ _ (by omega))) ((hp2 _ (by omega)).trans ((Heap.put_ne _ _ (by omega)).trans (by rw [hls, hsm, set_same hgA]))) (by rw [hbe]; exact ⟨hp1, (hp2 _ (by omega)).trans ((Heap.put_ne _ _ (by omega)).trans hlain.q), (hp2 _ (by omega)).trans ((Heap.put_ne _ _ (by omega)).trans hlain.v)⟩) (fun j hj hji k h1 h2 => (hp2 _ (by omega)).trans (Heap.put_ne _ _ (by omega))), fun k hk => (hp2 _ (by omega)).trans (Heap.put_ne _ _ (by omega))⟩; done)
    | (have hsm : lentAV (lx n0 i (bentE t e)) = lentAV (lx n0 i e) := by rw [hbe]; simp [lx, lentAV, Lp.av, putB_len]
       rw [hend]
       refine ⟨by omega, hL.upd hsp (by rw [he]; exact hbl) ((hp2 _ (by omega)).trans (Heap.put_ne _ _ (by omega))) ((hp2 _ (by omega)).trans (Heap.put_ne _ _ (by omega))) ((hp2 _ (by omega)).trans ((Heap.put_ne _ _ (by omega)).trans (by rw [hls, hsm, set_same hgA]))) (by rw [hbe]; exact ⟨(hp2 _ (by omega)).trans ((Heap.put_ne _ _ (by omega)).trans hlain.r), hp1, (hp2 _ (by omega)).trans ((Heap.put_ne _ _ (by omega)).trans hlain.v)⟩) (fun j hj hji k h1 h2 => (hp2 _ (by omega)).trans (Heap.put_ne _ _ (by omega))), fun k hk => (hp2 _ (by omega)).trans (Heap.put_ne _ _ (by omega))⟩; done)
    | (have hsm : lentAV (lx n0 i (bentE t e)) = lentAV (lx n0 i e) := by rw [hbe]; simp [lx, lentAV, Lp.av, putB_len]
       rw [hend]
       refine ⟨by omega, hL.upd hsp (by rw [he]; exact hbl) ((hp2 _ (by omega)).trans (Heap.put_ne _ _ (by omega))) ((hp2 _ (by omega)).trans (Heap.put_ne _ _ (by omega))) ((hp2 _ (by omega)).trans ((Heap.put_ne _ _ (by omega)).trans (by rw [hls, hsm, set_same hgA]))) (by rw [hbe]; exact ⟨(hp2 _ (by omega)).trans ((Heap.put_ne _ _ (by omega)).trans hlain.r), (hp2 _ (by omega)).trans ((Heap.put_ne _ _ (by omega)).trans hlain.q), hp1⟩) (fun j hj hji k h1 h2 => (hp2 _ (by omega)).trans (Heap.put_ne _ _ (by omega))), fun k hk => (hp2 _ (by omega)).trans (Heap.put_ne _ _ (by omega))⟩; done)
    | (rw [hend]
       refine ⟨by omega, hL.upd hsp (by rw [he]; exact hbl) ((Heap.put_ne _ _ (by omega)).trans (Heap.put_ne _ _ (by omega))) ((Heap.put_ne _ _ (by omega)).trans (Heap.put_ne _ _ (by omega))) ((Heap.put_same _ _ _).trans (by rw [hbe, List.set_append_left _ _ (by simp [lxs_len]; exact hsp)]; rfl)) (by rw [hbe]; exact ⟨(Heap.put_ne _ _ (by omega)).trans ((Heap.put_ne _ _ (by omega)).trans hlain.r), (Heap.put_ne _ _ (by omega)).trans ((Heap.put_ne _ _ (by omega)).trans hlain.q), (Heap.put_ne _ _ (by omega)).trans ((Heap.put_ne _ _ (by omega)).trans hlain.v)⟩) (fun j hj hji k h1 h2 => (Heap.put_ne _ _ (by omega)).trans (Heap.put_ne _ _ (by omega))), fun k hk => by rw [if_neg (by omega), if_neg (by omega)]⟩; done)
   ·skip
    have g0 : ¬ t.kind = 0 := by simpa using hb
    refine awp_rq zs [3, 4, 16, 26] ?_
    refine awp_cnd (fun hb => ?_) (fun hb => ?_)
    ·skip
     have g1 : t.kind = 1 := by simpa using hb
     have hbe : bentE t e = { e with qual := putB e.qual t.by' } := by unfold bentE; rw [if_neg g0, if_pos g1]
     refine awp_drw1 rfl zs [] [.m, .q, .q, .q, .q, .q, .w []] (by kernel_rfl) (fun _ _ _ _ _ h => h) fun K hK => ?_
     try simp only [go_sem, ↓reduceIte, Nat.reduceEqDiff, Nat.reduceLT, Nat.reduceSub, Nat.reduceAdd, Nat.reduceMul, hls, hnth, r1, r2, lx, Lp.av]
     repeat refine peel ?_
     refine callK_useK (args' := [.osl (n0 + 4 + 4 * i) 2 0 e.qual.length, .int .i64 t.by']) Tryz.func55 rfl rfl rfl (c_law_put (n0 + 4 + 4 * i) e.qual (by omega) t.by' _ _ ((Heap.put_ne _ _ (by omega)).trans hlain.q)) ?_ ?_
     rotate_left
     · intro p H' n' h; cases h.1
     rintro r H3 n3 ⟨hr3, hn3, hp1, hp2⟩
     cases hr3
     try simp only [go_sem, ↓reduceIte, Nat.reduceEqDiff, Nat.reduceLT, Nat.reduceSub, Nat.reduceAdd, Nat.reduceMul, hls, hnth, r1, r2, lx, Lp.av]
     repeat refine peel ?_
     refine hK _ _ _ ?_; clear hK K
     try simp only [go_sem, ↓reduceIte, Nat.reduceEqDiff, Nat.reduceLT, Nat.reduceSub, Nat.reduceAdd, Nat.reduceMul]
     try simp only [go_sem, ↓reduceIte, Nat.reduceEqDiff, Nat.reduceLT, Nat.reduceSub, Nat.reduceAdd, Nat.reduceMul]
     first
     | (refine ⟨by omega, by rw [hend]; exact hL.mono fun k h1 h2 => Heap.put_ne _ _ (by omega), fun k hk => by rw [if_neg (by omega)]⟩; done)
     | (rw [hend, hbe, set_same hgl]; refine ⟨by omega, hL.mono fun k h1 h2 => Heap.put_ne _ _ (by omega), fun k hk => by rw [if_neg (by omega)]⟩; done)
     | (have hsm : lentAV (lx n0 i (bentE t e)) = lentAV (lx n0 i e) := by rw [hbe]; simp [lx, lentAV, Lp.av, putB_len]
        rw [hend]
        refine ⟨by omega, hL.upd hsp (by rw [he]; exact hbl) ((hp2 _ (by omega)).trans (Heap.put_ne _ _ (by omega))) ((hp2 _ (by omega)).trans (Heap.put_ne _ _ (by omega))) ((hp2 _ (by omega)).trans ((Heap.put_ne _ _ (by omega)).trans (by rw [hls, hsm, set_same hgA]))) (by rw [hbe]; exact ⟨hp1, (hp2 _ (by omega)).trans ((Heap.put_ne _ _ (by omega)).trans hlain.q), (hp2 _ (by omega)).trans ((Heap.put_ne _ _ (by omega)).trans hlain.v)⟩) (fun j hj hji k h1 h2 => (hp2 _ (by omega)).trans (Heap.put_ne _ _ (by omega))), fun k hk => (hp2 _ (by omega)).trans (Heap.put_ne _ _ (by omega))⟩; done)
     | (have hsm : lentAV (lx n0 i (bentE t e)) = lentAV (lx n0 i e) := by rw [hbe]; simp [lx, lentAV, Lp.av, putB_len]
        rw [hend]
        refine ⟨by omega, hL.upd hsp (by rw [he]; exact hbl) ((hp2 _ (by omega)).trans (Heap.put_ne _ _ (by omega))) ((hp2 _ (by omega)).trans (Heap.put_ne _ _ (by omega))) ((hp2 _ (by omega)).trans ((Heap.put_ne _ _ (by omega)).trans (by rw [hls, hsm, set_same hgA]))) (by rw [hbe]; exact ⟨(hp2 _ (by omega)).trans ((Heap.put_ne _ _ (by omega)).trans hlain.r), hp1, (hp2 _ (by omega)).trans ((Heap.put_ne _ _ (by omega)).trans hlain.v)⟩) (fun j hj hji k h1 h2 => (hp2 _ (by omega)).trans (Heap.put_ne _ _ (by omega))), fun k hk => (hp2 _ (by omega)).trans (Heap.put_ne _ _ (by omega))⟩; done)
     | (have hsm : lentAV (lx n0 i (bentE t e)) = lentAV (lx n0 i e) := by rw [hbe]; simp [lx, lentAV, Lp.av, putB_len]
        rw [hend]
        refine ⟨by omega, hL.upd hsp (by rw [he]; exact hbl) ((hp2 _ (by omega)).trans (Heap.put_ne _ _ (by omega))) ((hp2 _ (by omega)).trans (Heap.put_ne _ _ (by omega))) ((hp2 _ (by omega)).trans ((Heap.put_ne _ _ (by omega)).trans (by rw [hls, hsm, set_same hgA]))) (by rw [hbe]; exact ⟨(hp2 _ (by omega)).trans ((Heap.put_ne _ _ (by omega)).trans hlain.r), (hp2 _ (by omega)).trans ((Heap.put_ne _ _ (by omega)).trans hlain.q), hp1⟩) (fun j hj hji k h1 h2 => (hp2 _ (by omega)).trans (Heap.put_ne _ _ (by omega))), fun k hk => (hp2 _ (by omega)).trans (Heap.put_ne _ _ (by omega))⟩; done)
     | (rw [hend]
        refine ⟨by omega, hL.upd hsp (by rw [he]; exact hbl) ((Heap.put_ne _ _ (by omega)).trans (Heap.put_ne _ _ (by omega))) ((Heap.put_ne _ _ (by omega)).trans (Heap.put_ne _ _ (by omega))) ((Heap.put_same _ _ _).trans (by rw [hbe, List.set_append_left _ _ (by simp [lxs_len]; exact hsp)]; rfl)) (by rw [hbe]; exact ⟨(Heap.put_ne _ _ (by omega)).trans ((Heap.put_ne _ _ (by omega)).trans hlain.r), (Heap.put_ne _ _ (by omega)).trans ((Heap.put_ne _ _ (by omega)).trans hlain.q), (Heap.put_ne _ _ (by omega)).trans ((Heap.put_ne _ _ (by omega)).trans hlain.v)⟩) (fun j hj hji k h1 h2 => (Heap.put_ne _ _ (by omega)).trans (Heap.put_ne _ _ (by omega))), fun k hk => by rw [if_neg (by omega), if_neg (by omega)]⟩; done)
    ·skip
     have g1 : ¬ t.kind = 1 := by simpa using hb
     refine awp_rq zs [3, 4, 16, 35] ?_
     refine awp_cnd (fun hb => ?_) (fun hb => ?_)
     ·skip
      have g2 : t.kind = 2 := by simpa using hb
      have hbe : bentE t e = { e with value := putB e.value t.by' } := by unfold bentE; rw [if_neg g0, if_neg g1, if_pos g2]
      refine awp_drw1 rfl zs [] [.m, .q, .q, .q, .q, .q, .w []] (by kernel_rfl) (fun _ _ _ _ _ h => h) fun K hK => ?_
      try simp only [go_sem, ↓reduceIte, Nat.reduceEqDiff, Nat.reduceLT, Nat.reduceSub, Nat.reduceAdd, Nat.reduceMul, hls, hnth, r1, r2, lx, Lp.av]
      repeat refine peel ?_
      refine callK_useK (args' := [.osl (n0 + 5 + 4 * i) 2 0 e.value.length, .int .i64 t.by']) Tryz.func55 rfl rfl rfl (c_law_put (n0 + 5 + 4 * i) e.value (by omega) t.by' _ _ ((Heap.put_ne _ _ (by omega)).trans hlain.v)) ?_ ?_
      rotate_left
      · intro p H' n' h; cases h.1
      rintro r H3 n3 ⟨hr3, hn3, hp1, hp2⟩
      cases hr3
      try simp only [go_sem, ↓reduceIte, Nat.reduceEqDiff, Nat.reduceLT, Nat.reduceSub, Nat.reduceAdd, Nat.reduceMul, hls, hnth, r1, r2, lx, Lp.av]
      repeat refine peel ?_
      refine hK _ _ _ ?_; clear hK K
      try simp only [go_sem, ↓reduceIte, Nat.reduceEqDiff, Nat.reduceLT, Nat.reduceSub, Nat.reduceAdd, Nat.reduceMul]
      try simp only [go_sem, ↓reduceIte, Nat.reduceEqDiff, Nat.reduceLT, Nat.reduceSub, Nat.reduceAdd, Nat.reduceMul]
      first
      | (refine ⟨by omega, by rw [hend]; exact hL.mono fun k h1 h2 => Heap.put_ne _ _ (by omega), fun k hk => by rw [if_neg (by omega)]⟩; done)
      | (rw [hend, hbe, set_same hgl]; refine ⟨by omega, hL.mono fun k h1 h2 => Heap.put_ne _ _ (by omega), fun k hk => by rw [if_neg (by omega)]⟩; done)
      | (have hsm : lentAV (lx n0 i (bentE t e)) = lentAV (lx n0 i e) := by rw [hbe]; simp [lx, lentAV, Lp.av, putB_len]
         rw [hend]
         refine ⟨by omega, hL.upd hsp (by rw [he]; exact hbl) ((hp2 _ (by omega)).trans (Heap.put_ne _ _ (by omega))) ((hp2 _ (by omega)).trans (Heap.put_ne _ _ (by omega))) ((hp2 _ (by omega)).trans ((Heap.put_ne _ _ (by omega)).trans (by rw [hls, hsm, set_same hgA]))) (by rw [hbe]; exact ⟨hp1, (hp2 _ (by omega)).trans ((Heap.put_ne _ _ (by omega)).trans hlain.q), (hp2 _ (by omega)).trans ((Heap.put_ne _ _ (by omega)).trans hlain.v)⟩) (fun j hj hji k h1 h2 => (hp2 _ (by omega)).trans (Heap.put_ne _ _ (by omega))), fun k hk => (hp2 _ (by omega)).trans (Heap.put_ne _ _ (by omega))⟩; done)
      | (have hsm : lentAV (lx n0 i (bentE t e)) = lentAV (lx n0 i e) := by rw [hbe]; simp [lx, lentAV, Lp.av, putB_len]
         rw [hend]
         refine ⟨by omega, hL.upd hsp (by rw [he]; exact hbl) ((hp2 _ (by omega)).trans (Heap.put_ne _ _ (by omega))) ((hp2 _ (by omega)).trans (Heap.put_ne _ _ (by omega))) ((hp2 _ (by omega)).trans ((Heap.put_ne _ _ (by omega)).trans (by rw [hls, hsm, set_same hgA]))) (by rw [hbe]; exact ⟨(hp2 _ (by omega)).trans ((Heap.put_ne _ _ (by omega)).trans hlain.r), hp1, (hp2 _ (by omega)).trans ((Heap.put_ne _ _ (by omega)).trans hlain.v)⟩) (fun j hj hji k h1 h2 => (hp2 _ (by omega)).trans (Heap.put_ne _ _ (by omega))), fun k hk => (hp2 _ (by omega)).trans (Heap.put_ne _ _ (by omega))⟩; done)
      | (have hsm : lentAV (lx n0 i (bentE t e)) = lentAV (lx n0 i e) := by rw [hbe]; simp [lx, lentAV, Lp.av, putB_len]
         rw [hend]
         refine ⟨by omega, hL.upd hsp (by rw [he]; exact hbl) ((hp2 _ (by omega)).trans (Heap.put_ne _ _ (by omega))) ((hp2 _ (by omega)).trans (Heap.put_ne _ _ (by omega))) ((hp2 _ (by omega)).trans ((Heap.put_ne _ _ (by omega)).trans (by rw [hls, hsm, set_same hgA]))) (by rw [hbe]; exact ⟨(hp2 _ (by omega)).trans ((Heap.put_ne _ _ (by omega)).trans hlain.r), (hp2 _ (by omega)).trans ((Heap.put_ne _ _ (by omega)).trans hlain.q), hp1⟩) (fun j hj hji k h1 h2 => (hp2 _ (by omega)).trans (Heap.put_ne _ _ (by omega))), fun k hk => (hp2 _ (by omega)).trans (Heap.put_ne _ _ (by omega))⟩; done)
      | (rw [hend]
         refine ⟨by omega, hL.upd hsp (by rw [he]; exact hbl) ((Heap.put_ne _ _ (by omega)).trans (Heap.put_ne _ _ (by omega))) ((Heap.put_ne _ _ (by omega)).trans (Heap.put_ne _ _ (by omega))) ((Heap.put_same _ _ _).trans (by rw [hbe, List.set_append_left _ _ (by simp [lxs_len]; exact hsp)]; rfl)) (by rw [hbe]; exact ⟨(Heap.put_ne _ _ (by omega)).trans ((Heap.put_ne _ _ (by omega)).trans hlain.r), (Heap.put_ne _ _ (by omega)).trans ((Heap.put_ne _ _ (by omega)).trans hlain.q), (Heap.put_ne _ _ (by omega)).trans ((Heap.put_ne _ _ (by omega)).trans hlain.v)⟩) (fun j hj hji k h1 h2 => (Heap.put_ne _ _ (by omega)).trans (Heap.put_ne _ _ (by omega))), fun k hk => by rw [if_neg (by omega), if_neg (by omega)]⟩; done)
     ·skip
      have g2 : ¬ t.kind = 2 := by simpa using hb
      refine awp_rq zs [3, 4, 16, 44] ?_
      refine awp_cnd (fun hb => ?_) (fun hb => ?_)
      ·skip
       have g3 : t.kind = 3 := by simpa using hb
       have hbe : bentE t e = { e with ts := t.by' } := by unfold bentE; rw [if_neg g0, if_neg g1, if_neg g2, if_pos g3]
       refine awp_reg1 zs [] fun K hK => ?_
       try simp only [go_sem, ↓reduceIte, Nat.reduceEqDiff, Nat.reduceLT, Nat.reduceSub, Nat.reduceAdd, Nat.reduceMul, hls, hnth, r1, r2, lx, Lp.av]
       repeat refine peel ?_
       refine hK _ _ _ ?_; clear hK K
       try simp only [go_sem, ↓reduceIte, Nat.reduceEqDiff, Nat.reduceLT, Nat.reduceSub, Nat.reduceAdd, Nat.reduceMul]
       try simp only [go_sem, ↓reduceIte, Nat.reduceEqDiff, Nat.reduceLT, Nat.reduceSub, Nat.reduceAdd, Nat.reduceMul]
       first
       | (refine ⟨by omega, by rw [hend]; exact hL.mono fun k h1 h2 => Heap.put_ne _ _ (by omega), fun k hk => by rw [if_neg (by omega)]⟩; done)
       | (rw [hend, hbe, set_same hgl]; refine ⟨by omega, hL.mono fun k h1 h2 => Heap.put_ne _ _ (by omega), fun k hk => by rw [if_neg (by omega)]⟩; done)
       | (have hsm : lentAV (lx n0 i (bentE t e)) = lentAV (lx n0 i e) := by rw [hbe]; simp [lx, lentAV, Lp.av, putB_len]
          rw [hend]
          refine ⟨by omega, hL.upd hsp (by rw [he]; exact hbl) ((hp2 _ (by omega)).trans (Heap.put_ne _ _ (by omega))) ((hp2 _ (by omega)).trans (Heap.put_ne _ _ (by omega))) ((hp2 _ (by omega)).trans ((Heap.put_ne _ _ (by omega)).trans (by rw [hls, hsm, set_same hgA]))) (by rw [hbe]; exact ⟨hp1, (hp2 _ (by omega)).trans ((Heap.put_ne _ _ (by omega)).trans hlain.q), (hp2 _ (by omega)).trans ((Heap.put_ne _ _ (by omega)).trans hlain.v)⟩) (fun j hj hji k h1 h2 => (hp2 _ (by omega)).trans (Heap.put_ne _ _ (by omega))), fun k hk => (hp2 _ (by omega)).trans (Heap.put_ne _ _ (by omega))⟩; done)
       | (have hsm : lentAV (lx n0 i (bentE t e)) = lentAV (lx n0 i e) := by rw [hbe]; simp [lx, lentAV, Lp.av, putB_len]
          rw [hend]
          refine ⟨by omega, hL.upd hsp (by rw [he]; exact hbl) ((hp2 _ (by omega)).trans (Heap.put_ne _ _ (by omega))) ((hp2 _ (by omega)).trans (Heap.put_ne _ _ (by omega))) ((hp2 _ (by omega)).trans ((Heap.put_ne _ _ (by omega)).trans (by rw [hls, hsm, set_same hgA]))) (by rw [hbe]; exact ⟨(hp2 _ (by omega)).trans ((Heap.put_ne _ _ (by omega)).trans hlain.r), hp1, (hp2 _ (by omega)).trans ((Heap.put_ne _ _ (by omega)).trans hlain.v)⟩) (fun j hj hji k h1 h2 => (hp2 _ (by omega)).trans (Heap.put_ne _ _ (by omega))), fun k hk => (hp2 _ (by omega)).trans (Heap.put_ne _ _ (by omega))⟩; done)
       | (have hsm : lentAV (lx n0 i (bentE t e)) = lentAV (lx n0 i e) := by rw [hbe]; simp [lx, lentAV, Lp.av, putB_len]
          rw [hend]
          refine ⟨by omega, hL.upd hsp (by rw [he]; exact hbl) ((hp2 _ (by omega)).trans (Heap.put_ne _ _ (by omega))) ((hp2 _ (by omega)).trans (Heap.put_ne _ _ (by omega))) ((hp2 _ (by omega)).trans ((Heap.put_ne _ _ (by omega)).trans (by rw [hls, hsm, set_same hgA]))) (by rw [hbe]; exact ⟨(hp2 _ (by omega)).trans ((Heap.put_ne _ _ (by omega)).trans hlain.r), (hp2 _ (by omega)).trans ((Heap.put_ne _ _ (by omega)).trans hlain.q), hp1⟩) (fun j hj hji k h1 h2 => (hp2 _ (by omega)).trans (Heap.put_ne _ _ (by omega))), fun k hk => (hp2 _ (by omega)).trans (Heap.put_ne _ _ (by omega))⟩; done)
       | (rw [hend]
          refine ⟨by omega, hL.upd hsp (by rw [he]; exact hbl) ((Heap.put_ne _ _ (by omega)).trans (Heap.put_ne _ _ (by omega))) ((Heap.put_ne _ _ (by omega)).trans (Heap.put_ne _ _ (by omega))) ((Heap.put_same _ _ _).trans (by rw [hbe, List.set_append_left _ _ (by simp [lxs_len]; exact hsp)]; rfl)) (by rw [hbe]; exact ⟨(Heap.put_ne _ _ (by omega)).trans ((Heap.put_ne _ _ (by omega)).trans hlain.r), (Heap.put_ne _ _ (by omega)).trans ((Heap.put_ne _ _ (by omega)).trans hlain.q), (Heap.put_ne _ _ (by omega)).trans ((Heap.put_ne _ _ (by omega)).trans hlain.v)⟩) (fun j hj hji k h1 h2 => (Heap.put_ne _ _ (by omega)).trans (Heap.put_ne _ _ (by omega))), fun k hk => by rw [if_neg (by omega), if_neg (by omega)]⟩; done)
      ·skip
       have g3 : ¬ t.kind = 3 := by simpa using hb
       refine awp_rq zs [3, 4, 16, 51] ?_
       refine awp_cnd (fun hb => ?_) (fun hb => ?_)
       ·skip
        have g4 : t.kind = 4 := by simpa using hb
        have hbe : bentE t e = { e with seq := t.by' } := by unfold bentE; rw [if_neg g0, if_neg g1, if_neg g2, if_neg g3, if_pos g4]
        refine awp_reg1 zs [] fun K hK => ?_
        try simp only [go_sem, ↓reduceIte, Nat.reduceEqDiff, Nat.reduceLT, Nat.reduceSub, Nat.reduceAdd, Nat.reduceMul, hls, hnth, r1, r2, lx, Lp.av]
        repeat refine peel ?_
        refine hK _ _ _ ?_; clear hK K
        try simp only [go_sem, ↓reduceIte, Nat.reduceEqDiff, Nat.reduceLT, Nat.reduceSub, Nat.reduceAdd, Nat.reduceMul]
        try simp only [go_sem, ↓reduceIte, Nat.reduceEqDiff, Nat.reduceLT, Nat.reduceSub, Nat.reduceAdd, Nat.reduceMul]
        first
        | (refine ⟨by omega, by rw [hend]; exact hL.mono fun k h1 h2 => Heap.put_ne _ _ (by omega), fun k hk => by rw [if_neg (by omega)]⟩; done)
        | (rw [hend, hbe, set_same hgl]; refine ⟨by omega, hL.mono fun k h1 h2 => Heap.put_ne _ _ (by omega), fun k hk => by rw [if_neg (by omega)]⟩; done)
        | (have hsm : lentAV (lx n0 i (bentE t e)) = lentAV (lx n0 i e) := by rw [hbe]; simp [lx, lentAV, Lp.av, putB_len]
           rw [hend]
           refine ⟨by omega, hL.upd hsp (by rw [he]; exact hbl) ((hp2 _ (by omega)).trans (Heap.put_ne _ _ (by omega))) ((hp2 _ (by omega)).trans (Heap.put_ne _ _ (by omega))) ((hp2 _ (by omega)).trans ((Heap.put_ne _ _ (by omega)).trans (by rw [hls, hsm, set_same hgA]))) (by rw [hbe]; exact ⟨hp1, (hp2 _ (by omega)).trans ((Heap.put_ne _ _ (by omega)).trans hlain.q), (hp2 _ (by omega)).trans ((Heap.put_ne _ _ (by omega)).trans hlain.v)⟩) (fun j hj hji k h1 h2 => (hp2 _ (by omega)).trans (Heap.put_ne _ _ (by omega))), fun k hk => (hp2 _ (by omega)).trans (Heap.put_ne _ _ (by omega))⟩; done)
        | (have hsm : lentAV (lx n0 i (bentE t e)) = lentAV (lx n0 i e) := by rw [hbe]; simp [lx, lentAV, Lp.av, putB_len]
           rw [hend]
           refine ⟨by omega, hL.upd hsp (by rw [he]; exact hbl) ((hp2 _ (by omega)).trans (Heap.put_ne _ _ (by omega))) ((hp2 _ (by omega)).trans (Heap.put_ne _ _ (by omega))) ((hp2 _ (by omega)).trans ((Heap.put_ne _ _ (by omega)).trans (by rw [hls, hsm, set_same hgA]))) (by rw [hbe]; exact ⟨(hp2 _ (by omega)).trans ((Heap.put_ne _ _ (by omega)).trans hlain.r), hp1, (hp2 _ (by omega)).trans ((Heap.put_ne _ _ (by omega)).trans hlain.v)⟩) (fun j hj hji k h1 h2 => (hp2 _ (by omega)).trans (Heap.put_ne _ _ (by omega))), fun k hk => (hp2 _ (by omega)).trans (Heap.put_ne _ _ (by omega))⟩; done)
        | (have hsm : lentAV (lx n0 i (bentE t e)) = lentAV (lx n0 i e) := by rw [hbe]; simp [lx, lentAV, Lp.av, putB_len]
           rw [hend]
           refine ⟨by omega, hL.upd hsp (by rw [he]; exact hbl) ((hp2 _ (by omega)).trans (Heap.put_ne _ _ (by omega))) ((hp2 _ (by omega)).trans (Heap.put_ne _ _ (by omega))) ((hp2 _ (by omega)).trans ((Heap.put_ne _ _ (by omega)).trans (by rw [hls, hsm, set_same hgA]))) (by rw [hbe]; exact ⟨(hp2 _ (by omega)).trans ((Heap.put_ne _ _ (by omega)).trans hlain.r), (hp2 _ (by omega)).trans ((Heap.put_ne _ _ (by omega)).trans hlain.q), hp1⟩) (fun j hj hji k h1 h2 => (hp2 _ (by omega)).trans (Heap.put_ne _ _ (by omega))), fun k hk => (hp2 _ (by omega)).trans (Heap.put_ne _ _ (by omega))⟩; done)
        | (rw [hend]
           refine ⟨by omega, hL.upd hsp (by rw [he]; exact hbl) ((Heap.put_ne _ _ (by omega)).trans (Heap.put_ne _ _ (by omega))) ((Heap.put_ne _ _ (by omega)).trans (Heap.put_ne _ _ (by omega))) ((Heap.put_same _ _ _).trans (by rw [hbe, List.set_append_left _ _ (by simp [lxs_len]; exact hsp)]; rfl)) (by rw [hbe]; exact ⟨(Heap.put_ne _ _ (by omega)).trans ((Heap.put_ne _ _ (by omega)).trans hlain.r), (Heap.put_ne _ _ (by omega)).trans ((Heap.put_ne _ _ (by omega)).trans hlain.q), (Heap.put_ne _ _ (by omega)).trans ((Heap.put_ne _ _ (by omega)).trans hlain.v)⟩) (fun j hj hji k h1 h2 => (Heap.put_ne _ _ (by omega)).trans (Heap.put_ne _ _ (by omega))), fun k hk => by rw [if_neg (by omega), if_neg (by omega)]⟩; done)
       ·skip
        have g4 : ¬ t.kind = 4 := by simpa using hb
        refine awp_rq zs [3, 4, 16, 58] ?_
        refine awp_cnd (fun hb => ?_) (fun hb => ?_)
        ·skip
         have g5 : t.kind = 5 := by simpa using hb
         have hbe : bentE t e = { e with kind := t.by' } := by unfold bentE; rw [if_neg g0, if_neg g1, if_neg g2, if_neg g3, if_neg g4, if_pos g5]
         refine awp_reg1 zs [] fun K hK => ?_
         try simp only [go_sem, ↓reduceIte, Nat.reduceEqDiff, Nat.reduceLT, Nat.reduceSub, Nat.reduceAdd, Nat.reduceMul, hls, hnth, r1, r2, lx, Lp.av]
         repeat refine peel ?_
         refine hK _ _ _ ?_; clear hK K
         try simp only [go_sem, ↓reduceIte, Nat.reduceEqDiff, Nat.reduceLT, Nat.reduceSub, Nat.reduceAdd, Nat.reduceMul]
         try simp only [go_sem, ↓reduceIte, Nat.reduceEqDiff, Nat.reduceLT, Nat.reduceSub, Nat.reduceAdd, Nat.reduceMul]
         first
         | (refine ⟨by omega, by rw [hend]; exact hL.mono fun k h1 h2 => Heap.put_ne _ _ (by omega), fun k hk => by rw [if_neg (by omega)]⟩; done)
         | (rw [hend, hbe, set_same hgl]; refine ⟨by omega, hL.mono fun k h1 h2 => Heap.put_ne _ _ (by omega), fun k hk => by rw [if_neg (by omega)]⟩; done)
         | (have hsm : lentAV (lx n0 i (bentE t e)) = lentAV (lx n0 i e) := by rw [hbe]; simp [lx, lentAV, Lp.av, putB_len]
            rw [hend]
            refine ⟨by omega, hL.upd hsp (by rw [he]; exact hbl) ((hp2 _ (by omega)).trans (Heap.put_ne _ _ (by omega))) ((hp2 _ (by omega)).trans (Heap.put_ne _ _ (by omega))) ((hp2 _ (by omega)).trans ((Heap.put_ne _ _ (by omega)).trans (by rw [hls, hsm, set_same hgA]))) (by rw [hbe]; exact ⟨hp1, (hp2 _ (by omega)).trans ((Heap.put_ne _ _ (by omega)).trans hlain.q), (hp2 _ (by omega)).trans ((Heap.put_ne _ _ (by omega)).trans hlain.v)⟩) (fun j hj hji k h1 h2 => (hp2 _ (by omega)).trans (Heap.put_ne _ _ (by omega))), fun k hk => (hp2 _ (by omega)).trans (Heap.put_ne _ _ (by omega))⟩; done)
         | (have hsm : lentAV (lx n0 i (bentE t e)) = lentAV (lx n0 i e) := by rw [hbe]; simp [lx, lentAV, Lp.av, putB_len]
            rw [hend]
            refine ⟨by omega, hL.upd hsp (by rw [he]; exact hbl) ((hp2 _ (by omega)).trans (Heap.put_ne _ _ (by omega))) ((hp2 _ (by omega)).trans (Heap.put_ne _ _ (by omega))) ((hp2 _ (by omega)).trans ((Heap.put_ne _ _ (by omega)).trans (by rw [hls, hsm, set_same hgA]))) (by rw [hbe]; exact ⟨(hp2 _ (by omega)).trans ((Heap.put_ne _ _ (by omega)).trans hlain.r), hp1, (hp2 _ (by omega)).trans ((Heap.put_ne _ _ (by omega)).trans hlain.v)⟩) (fun j hj hji k h1 h2 => (hp2 _ (by omega)).trans (Heap.put_ne _ _ (by omega))), fun k hk => (hp2 _ (by omega)).trans (Heap.put_ne _ _ (by omega))⟩; done)
         | (have hsm : lentAV (lx n0 i (bentE t e)) = lentAV (lx n0 i e) := by rw [hbe]; simp [lx, lentAV, Lp.av, putB_len]
            rw [hend]
            refine ⟨by omega, hL.upd hsp (by rw [he]; exact hbl) ((hp2 _ (by omega)).trans (Heap.put_ne _ _ (by omega))) ((hp2 _ (by omega)).trans (Heap.put_ne _ _ (by omega))) ((hp2 _ (by omega)).trans ((Heap.put_ne _ _ (by omega)).trans (by rw [hls, hsm, set_same hgA]))) (by rw [hbe]; exact ⟨(hp2 _ (by omega)).trans ((Heap.put_ne _ _ (by omega)).trans hlain.r), (hp2 _ (by omega)).trans ((Heap.put_ne _ _ (by omega)).trans hlain.q), hp1⟩) (fun j hj hji k h1 h2 => (hp2 _ (by omega)).trans (Heap.put_ne _ _ (by omega))), fun k hk => (hp2 _ (by omega)).trans (Heap.put_ne _ _ (by omega))⟩; done)
         | (rw [hend]
            refine ⟨by omega, hL.upd hsp (by rw [he]; exact hbl) ((Heap.put_ne _ _ (by omega)).trans (Heap.put_ne _ _ (by omega))) ((Heap.put_ne _ _ (by omega)).trans (Heap.put_ne _ _ (by omega))) ((Heap.put_same _ _ _).trans (by rw [hbe, List.set_append_left _ _ (by simp [lxs_len]; exact hsp)]; rfl)) (by rw [hbe]; exact ⟨(Heap.put_ne _ _ (by omega)).trans ((Heap.put_ne _ _ (by omega)).trans hlain.r), (Heap.put_ne _ _ (by omega)).trans ((Heap.put_ne _ _ (by omega)).trans hlain.q), (Heap.put_ne _ _ (by omega)).trans ((Heap.put_ne _ _ (by omega)).trans hlain.v)⟩) (fun j hj hji k h1 h2 => (Heap.put_ne _ _ (by omega)).trans (Heap.put_ne _ _ (by omega))), fun k hk => by rw [if_neg (by omega), if_neg (by omega)]⟩; done)
        ·skip
         have g5 : ¬ t.kind = 5 := by simpa using hb
         refine awp_rq zs [3, 4, 65] ?_
         refine awp_cnd (fun hb => ?_) (fun hb => ?_)
         ·skip
          have g6 : t.kind = 6 := by simpa using hb
          have hbe : bentE t e = { e with fam := t.by' } := by unfold bentE; rw [if_neg g0, if_neg g1, if_neg g2, if_neg g3, if_neg g4, if_neg g5, if_pos g6]
          refine awp_reg1 zs [] fun K hK => ?_
          try simp only [go_sem, ↓reduceIte, Nat.reduceEqDiff, Nat.reduceLT, Nat.reduceSub, Nat.reduceAdd, Nat.reduceMul, hls, hnth, r1, r2, lx, Lp.av]
          repeat refine peel ?_
          refine hK _ _ _ ?_; clear hK K
          try simp only [go_sem, ↓reduceIte, Nat.reduceEqDiff, Nat.reduceLT, Nat.reduceSub, Nat.reduceAdd, Nat.reduceMul]
          try simp only [go_sem, ↓reduceIte, Nat.reduceEqDiff, Nat.reduceLT, Nat.reduceSub, Nat.reduceAdd, Nat.reduceMul]
          first
          | (refine ⟨by omega, by rw [hend]; exact hL.mono fun k h1 h2 => Heap.put_ne _ _ (by omega), fun k hk => by rw [if_neg (by omega)]⟩; done)
          | (rw [hend, hbe, set_same hgl]; refine ⟨by omega, hL.mono fun k h1 h2 => Heap.put_ne _ _ (by omega), fun k hk => by rw [if_neg (by omega)]⟩; done)
          | (have hsm : lentAV (lx n0 i (bentE t e)) = lentAV (lx n0 i e) := by rw [hbe]; simp [lx, lentAV, Lp.av, putB_len]
             rw [hend]
             refine ⟨by omega, hL.upd hsp (by rw [he]; exact hbl) ((hp2 _ (by omega)).trans (Heap.put_ne _ _ (by omega))) ((hp2 _ (by omega)).trans (Heap.put_ne _ _ (by omega))) ((hp2 _ (by omega)).trans ((Heap.put_ne _ _ (by omega)).trans (by rw [hls, hsm, set_same hgA]))) (by rw [hbe]; exact ⟨hp1, (hp2 _ (by omega)).trans ((Heap.put_ne _ _ (by omega)).trans hlain.q), (hp2 _ (by omega)).trans ((Heap.put_ne _ _ (by omega)).trans hlain.v)⟩) (fun j hj hji k h1 h2 => (hp2 _ (by omega)).trans (Heap.put_ne _ _ (by omega))), fun k hk => (hp2 _ (by omega)).trans (Heap.put_ne _ _ (by omega))⟩; done)
          | (have hsm : lentAV (lx n0 i (bentE t e)) = lentAV (lx n0 i e) := by rw [hbe]; simp [lx, lentAV, Lp.av, putB_len]
             rw [hend]
             refine ⟨by omega, hL.upd hsp (by rw [he]; exact hbl) ((hp2 _ (by omega)).trans (Heap.put_ne _ _ (by omega))) ((hp2 _ (by omega)).trans (Heap.put_ne _ _ (by omega))) ((hp2 _ (by omega)).trans ((Heap.put_ne _ _ (by omega)).trans (by rw [hls, hsm, set_same hgA]))) (by rw [hbe]; exact ⟨(hp2 _ (by omega)).trans ((Heap.put_ne _ _ (by omega)).trans hlain.r), hp1, (hp2 _ (by omega)).trans ((Heap.put_ne _ _ (by omega)).trans hlain.v)⟩) (fun j hj hji k h1 h2 => (hp2 _ (by omega)).trans (Heap.put_ne _ _ (by omega))), fun k hk => (hp2 _ (by omega)).trans (Heap.put_ne _ _ (by omega))⟩; done)
          | (have hsm : lentAV (lx n0 i (bentE t e)) = lentAV (lx n0 i e) := by rw [hbe]; simp [lx, lentAV, Lp.av, putB_len]
             rw [hend]
             refine ⟨by omega, hL.upd hsp (by rw [he]; exact hbl) ((hp2 _ (by omega)).trans (Heap.put_ne _ _ (by omega))) ((hp2 _ (by omega)).trans (Heap.put_ne _ _ (by omega))) ((hp2 _ (by omega)).trans ((Heap.put_ne _ _ (by omega)).trans (by rw [hls, hsm, set_same hgA]))) (by rw [hbe]; exact ⟨(hp2 _ (by omega)).trans ((Heap.put_ne _ _ (by omega)).trans hlain.r), (hp2 _ (by omega)).trans ((Heap.put_ne _ _ (by omega)).trans hlain.q), hp1⟩) (fun j hj hji k h1 h2 => (hp2 _ (by omega)).trans (Heap.put_ne _ _ (by omega))), fun k hk => (hp2 _ (by omega)).trans (Heap.put_ne _ _ (by omega))⟩; done)
          | (rw [hend]
             refine ⟨by omega, hL.upd hsp (by rw [he]; exact hbl) ((Heap.put_ne _ _ (by omega)).trans (Heap.put_ne _ _ (by omega))) ((Heap.put_ne _ _ (by omega)).trans (Heap.put_ne _ _ (by omega))) ((Heap.put_same _ _ _).trans (by rw [hbe, List.set_append_left _ _ (by simp [lxs_len]; exact hsp)]; rfl)) (by rw [hbe]; exact ⟨(Heap.put_ne _ _ (by omega)).trans ((Heap.put_ne _ _ (by omega)).trans hlain.r), (Heap.put_ne _ _ (by omega)).trans ((Heap.put_ne _ _ (by omega)).trans hlain.q), (Heap.put_ne _ _ (by omega)).trans ((Heap.put_ne _ _ (by omega)).trans hlain.v)⟩) (fun j hj hji k h1 h2 => (Heap.put_ne _ _ (by omega)).trans (Heap.put_ne _ _ (by omega))), fun k hk => by rw [if_neg (by omega), if_neg (by omega)]⟩; done)
         ·skip
          have g6 : ¬ t.kind = 6 := by simpa using hb
          have hbe : bentE t e = e := by unfold bentE; rw [if_neg g0, if_neg g1, if_neg g2, if_neg g3, if_neg g4, if_neg g5, if_neg g6]
          refine awp_skip ?_
          try simp only [go_sem, ↓reduceIte, Nat.reduceEqDiff, Nat.reduceLT, Nat.reduceSub, Nat.reduceAdd, Nat.reduceMul]
          first
          | (refine ⟨by omega, by rw [hend]; exact hL.mono fun k h1 h2 => Heap.put_ne _ _ (by omega), fun k hk => by rw [if_neg (by omega)]⟩; done)
          | (rw [hend, hbe, set_same hgl]; refine ⟨by omega, hL.mono fun k h1 h2 => Heap.put_ne _ _ (by omega), fun k hk => by rw [if_neg (by omega)]⟩; done)
          | (have hsm : lentAV (lx n0 i (bentE t e)) = lentAV (lx n0 i e) := by rw [hbe]; simp [lx, lentAV, Lp.av, putB_len]
             rw [hend]
             refine ⟨by omega, hL.upd hsp (by rw [he]; exact hbl) ((hp2 _ (by omega)).trans (Heap.put_ne _ _ (by omega))) ((hp2 _ (by omega)).trans (Heap.put_ne _ _ (by omega))) ((hp2 _ (by omega)).trans ((Heap.put_ne _ _ (by omega)).trans (by rw [hls, hsm, set_same hgA]))) (by rw [hbe]; exact ⟨hp1, (hp2 _ (by omega)).trans ((Heap.put_ne _ _ (by omega)).trans hlain.q), (hp2 _ (by omega)).trans ((Heap.put_ne _ _ (by omega)).trans hlain.v)⟩) (fun j hj hji k h1 h2 => (hp2 _ (by omega)).trans (Heap.put_ne _ _ (by omega))), fun k hk => (hp2 _ (by omega)).trans (Heap.put_ne _ _ (by omega))⟩; done)
          | (have hsm : lentAV (lx n0 i (bentE t e)) = lentAV (lx n0 i e) := by rw [hbe]; simp [lx, lentAV, Lp.av, putB_len]
             rw [hend]
             refine ⟨by omega, hL.upd hsp (by rw [he]; exact hbl) ((hp2 _ (by omega)).trans (Heap.put_ne _ _ (by omega))) ((hp2 _ (by omega)).trans (Heap.put_ne _ _ (by omega))) ((hp2 _ (by omega)).trans ((Heap.put_ne _ _ (by omega)).trans (by rw [hls, hsm, set_same hgA]))) (by rw [hbe]; exact ⟨(hp2 _ (by omega)).trans ((Heap.put_ne _ _ (by omega)).trans hlain.r), hp1, (hp2 _ (by omega)).trans ((Heap.put_ne _ _ (by omega)).trans hlain.v)⟩) (fun j hj hji k h1 h2 => (hp2 _ (by omega)).trans (Heap.put_ne _ _ (by omega))), fun k hk => (hp2 _ (by omega)).trans (Heap.put_ne _ _ (by omega))⟩; done)
          | (have hsm : lentAV (lx n0 i (bentE t e)) = lentAV (lx n0 i e) := by rw [hbe]; simp [lx, lentAV, Lp.av, putB_len]
             rw [hend]
             refine ⟨by omega, hL.upd hsp (by rw [he]; exact hbl) ((hp2 _ (by omega)).trans (Heap.put_ne _ _ (by omega))) ((hp2 _ (by omega)).trans (Heap.put_ne _ _ (by omega))) ((hp2 _ (by omega)).trans ((Heap.put_ne _ _ (by omega)).trans (by rw [hls, hsm, set_same hgA]))) (by rw [hbe]; exact ⟨(hp2 _ (by omega)).trans ((Heap.put_ne _ _ (by omega)).trans hlain.r), (hp2 _ (by omega)).trans ((Heap.put_ne _ _ (by omega)).trans hlain.q), hp1⟩) (fun j hj hji k h1 h2 => (hp2 _ (by omega)).trans (Heap.put_ne _ _ (by omega))), fun k hk => (hp2 _ (by omega)).trans (Heap.put_ne _ _ (by omega))⟩; done)
          | (rw [hend]
             refine ⟨by omega, hL.upd hsp (by rw [he]; exact hbl) ((Heap.put_ne _ _ (by omega)).trans (Heap.put_ne _ _ (by omega))) ((Heap.put_ne _ _ (by omega)).trans (Heap.put_ne _ _ (by omega))) ((Heap.put_same _ _ _).trans (by rw [hbe, List.set_append_left _ _ (by simp [lxs_len]; exact hsp)]; rfl)) (by rw [hbe]; exact ⟨(Heap.put_ne _ _ (by omega)).trans ((Heap.put_ne _ _ (by omega)).trans hlain.r), (Heap.put_ne _ _ (by omega)).trans ((Heap.put_ne _ _ (by omega)).trans hlain.q), (Heap.put_ne _ _ (by omega)).trans ((Heap.put_ne _ _ (by omega)).trans hlain.v)⟩) (fun j hj hji k h1 h2 => (Heap.put_ne _ _ (by omega)).trans (Heap.put_ne _ _ (by omega))), fun k hk => by rw [if_neg (by omega), if_neg (by omega)]⟩; done)
end Go.Proofs.YtijhkfhflpmajaaGreat


namespace Go.Proofs.YtijhkfhflpmajaaGreat
open Go Go.Sx Go.Rt Go.Proofs

set_option maxRecDepth 100000 in
set_option maxHeartbeats 4000000 in
theorem c_law_still (l : List Ent) (hl : l.length ≤ 100000000) (hf : ∀ e ∈ l, e.row.length ≤ 70000000000000 ∧ e.qual.length ≤ 70000000000000 ∧ e.value.length ≤ 70000000000000) (H : Heap) (n n0 : Nat) (hn0 : n0 + 3 + 4 * l.length ≤ n) (hL : Laid H n0 l) :
    Ret Tryz.prog 26 [.loc n0 0 0 0 [], entsAV l] H n (.bool true) H n := by
  have hroom := hL.room
  have hls := hL.ls
  have hws := hL.ws
  have hwr : IntKind.i64.wrap ((l.length : Int) + 1) = ((l.length + 1 : Nat) : Int) := w1 (by omega)
  have hnl : nth ((lxs n0 l l.length).map lentAV ++ [mkE (-9)]) l.length = mkE (-9) := by
    unfold nth; rw [List.getD, List.getElem?_append_right (by simp [lxs_len])]; simp [lxs_len]
  simp only [mkE] at hnl
  have hsame : ∀ m, n0 + 3 + 4 * l.length ≤ m → Ret Tryz.prog 17 [(lp n0 l).av l.length, entsAV l] H m (.bool true) H m := fun m hm => by
    have h := c_ref3_SameAll ((lxs n0 l l.length).map (·.e)) l (by rw [lxs_all]; omega) (fun _ => none) 0
    rw [show decide ((lxs n0 l l.length).map (·.e) = l) = true by rw [lxs_all]; simp] at h
    have hfz := (hL.ok hm).frz
    rw [lxs_len] at hfz
    exact Ret.lend trivial (.cons hfz (.cons (.kl (kls_ents l 0)) .nil)) h
  simp only [lp, Lp.av] at hsame
  refine acalls_of_awp Tryz.func26 rfl Tryz.ntmps26 (congrArg Array.toList Tryz.results26) (by simp) ?_
  simp only [go_sem]
  refine awp_rq zs [0, 1] ?_
  refine awp_rq zs [0, 1, 5] ?_
  refine awp_seq_k fun K1 hK1 => ?_
  refine awp_reg zs [0, 1, 5, 38] fun K hK => ?_
  try simp only [go_sem, ↓reduceIte, Nat.reduceEqDiff, Nat.reduceLT, Nat.reduceSub, Nat.reduceAdd, Nat.reduceMul, List.length_map, Option.getD_some, Option.getD_none, Int.toNat_natCast, Int.toNat_zero, List.drop_zero, Nat.sub_zero, hroom, hls, hwr, hnl, bne_self_eq_false, mkE, show (false == false) = true from rfl, show (true == true) = true from rfl, show (true == false) = false from rfl, forall_const, true_implies, List.getD_cons_zero, List.getD_cons_succ]
  repeat (first | (refine And.intro ?_ ?_; · first | (simp [lxs_len]; done) | exact ⟨by omega, by omega, by omega, fun m hm => by cases hm⟩) | refine peel ?_)
  refine callG_use Tryz.func17 rfl rfl rfl (fun _ => (hsame _ hn0)) ?_
  try simp only [go_sem, ↓reduceIte, Nat.reduceEqDiff, Nat.reduceLT, Nat.reduceSub, Nat.reduceAdd, Nat.reduceMul, List.length_map, Option.getD_some, Option.getD_none, Int.toNat_natCast, Int.toNat_zero, List.drop_zero, Nat.sub_zero, hroom, hls, hwr, hnl, bne_self_eq_false, mkE, show (false == false) = true from rfl, show (true == true) = true from rfl, show (true == false) = false from rfl, forall_const, true_implies, List.getD_cons_zero, List.getD_cons_succ]
  repeat (first | (refine And.intro ?_ ?_; · first | (simp [lxs_len]; done) | exact ⟨by omega, by omega, by omega, fun m hm => by cases hm⟩) | refine peel ?_)
  refine hK _ _ _ ?_; clear hK K
  refine awp_cnd (fun hb => ?_) (fun hb => ?_)
  ·skip
   exact absurd hb (by simp)
   --dead
  ·skip
   refine awp_skip ?_
   try simp only [go_sem, ↓reduceIte, Nat.reduceEqDiff, Nat.reduceLT, Nat.reduceSub, Nat.reduceAdd, Nat.reduceMul]
   refine hK1 _ _ _ ?_
   first | clear hK1 K1 | skip
   refine awp_seq_k fun K2 hK2 => ?_
   refine awp_rq zs [0, 1, 5, 6] ?_
   refine awp_block ?_
   -- loop 0: head [0, 1, 5, 6]
   refine awp_loop (fun T' H' n' => ∃ (i : Nat), i ≤ l.length ∧ T' = tl [(0, .loc n0 0 0 0 []), (1, .sl 7 (l.map entAV)), (5, .int .i64 l.length), (6, .int .i64 i)] ∧ H = H' ∧ n = n') (fun T' _ _ => l.length - iv (T' 6)) ?_ ?_
   ·skip
    exact ⟨0, Nat.zero_le _, rfl, rfl, rfl⟩
   intro T1 H1 n1
   rintro ⟨i, hi, rfl, rfl, rfl⟩
   refine awp_seq_k fun K3 hK3 => ?_
   refine awp_rq zs [0, 1, 5, 6, 41] ?_
   refine awp_cnd (fun hb => ?_) (fun hb => ?_)
   ·skip
    have hlt : i < l.length := by simpa using hb
    have hnth : nth (l.map entAV) i = entAV (l.getD i default) := nth_map entAV l i hlt
    have hwi : IntKind.i64.wrap (3 * (i : Int)) = ((3 * i : Nat) : Int) := by rw [w64 (by omega) (by omega)]; omega
    have hwi1 : IntKind.i64.wrap (((3 * i : Nat) : Int) + 1) = ((3 * i + 1 : Nat) : Int) := w1 (by omega)
    have hwi2 : IntKind.i64.wrap (((3 * i : Nat) : Int) + 2) = ((3 * i + 2 : Nat) : Int) := by rw [w64 (by omega) (by omega)]; omega
    have hw0 : nth (wx n0 l l.length) (3 * i) = _ := wx_nth n0 l l.length i 0 hlt (by decide)
    have hw1' := wx_nth n0 l l.length i 1 hlt (by decide)
    have hw2' := wx_nth n0 l l.length i 2 hlt (by decide)
    have hwl := wx_len n0 l l.length
    have hbi := hL.bs i hlt
    have hfi := hf (l.getD i default) (by simp [List.getD, List.getElem?_eq_getElem hlt])
    generalize l.getD i default = e at *
    simp only [wx3, nth, List.getD_cons_zero, List.getD_cons_succ] at hw0 hw1' hw2'
    change nth (wx n0 l l.length) (3 * i) = _ at hw0
    change nth (wx n0 l l.length) (3 * i + 1) = _ at hw1'
    change nth (wx n0 l l.length) (3 * i + 2) = _ at hw2'
    refine awp_skip ?_
    try simp only [go_sem, ↓reduceIte, Nat.reduceEqDiff, Nat.reduceLT, Nat.reduceSub, Nat.reduceAdd, Nat.reduceMul]
    refine hK3 _ _ _ ?_
    first | clear hK3 K3 | skip
    refine awp_seq_k fun K4 hK4 => ?_
    refine awp_block ?_
    refine awp_drw rfl zs [0, 1, 5, 6, 94] [.m, .q, .q, .q, .m, .q, .q, .q, .m, .m, .q, .q, .q, .c, .q, .m, .m, .q, .q, .q, .m, .q, .q, .q, .q, .m, .m, .q, .q, .q, .c, .q, .q, .m, .m, .q, .q, .q, .m, .q, .q, .q, .q, .m, .m, .q, .q, .q, .c, .q, .q] (by kernel_rfl) (fun _ _ _ _ _ h => h) fun K hK => ?_
    try simp only [go_sem, ↓reduceIte, Nat.reduceEqDiff, Nat.reduceLT, Nat.reduceSub, Nat.reduceAdd, Nat.reduceMul, Int.toNat_natCast, hnth, hroom, hws, hwi, hwi1, hwi2, hw0, hw1', hw2', show (false == false) = true from rfl, show (true == true) = true from rfl, show (true == false) = false from rfl, show (!true) = false from rfl, Bool.false_or, Bool.or_true, forall_const, true_implies, List.length_map, AV.isAgg, AV.sz]
    repeat (first | (refine And.intro ?_ ?_; · first | (intro _; first | omega | (exact ⟨by omega, by simp; omega⟩)) | (simp; omega) | (exact ⟨by omega, by simp; omega⟩)) | refine peel ?_)
    refine callQG_use Tryz.func53 rfl rfl rfl (fun _ n => (l_law_kept hbi.r hfi.1 _)) ?_
    try simp only [go_sem, ↓reduceIte, Nat.reduceEqDiff, Nat.reduceLT, Nat.reduceSub, Nat.reduceAdd, Nat.reduceMul, Int.toNat_natCast, hnth, hroom, hws, hwi, hwi1, hwi2, hw0, hw1', hw2', show (false == false) = true from rfl, show (true == true) = true from rfl, show (true == false) = false from rfl, show (!true) = false from rfl, Bool.false_or, Bool.or_true, forall_const, true_implies, List.length_map, AV.isAgg, AV.sz]
    repeat (first | (refine And.intro ?_ ?_; · first | (intro _; first | omega | (exact ⟨by omega, by simp; omega⟩)) | (simp; omega) | (exact ⟨by omega, by simp; omega⟩)) | refine peel ?_)
    refine callQG_use Tryz.func53 rfl rfl rfl (fun _ n => (l_law_kept hbi.q hfi.2.1 _)) ?_
    try simp only [go_sem, ↓reduceIte, Nat.reduceEqDiff, Nat.reduceLT, Nat.reduceSub, Nat.reduceAdd, Nat.reduceMul, Int.toNat_natCast, hnth, hroom, hws, hwi, hwi1, hwi2, hw0, hw1', hw2', show (false == false) = true from rfl, show (true == true) = true from rfl, show (true == false) = false from rfl, show (!true) = false from rfl, Bool.false_or, Bool.or_true, forall_const, true_implies, List.length_map, AV.isAgg, AV.sz]
    repeat (first | (refine And.intro ?_ ?_; · first | (intro _; first | omega | (exact ⟨by omega, by simp; omega⟩)) | (simp; omega) | (exact ⟨by omega, by simp; omega⟩)) | refine peel ?_)
    refine callQG_use Tryz.func53 rfl rfl rfl (fun _ n => (l_law_kept hbi.v hfi.2.2 _)) ?_
    try simp only [go_sem, ↓reduceIte, Nat.reduceEqDiff, Nat.reduceLT, Nat.reduceSub, Nat.reduceAdd, Nat.reduceMul, Int.toNat_natCast, hnth, hroom, hws, hwi, hwi1, hwi2, hw0, hw1', hw2', show (false == false) = true from rfl, show (true == true) = true from rfl, show (true == false) = false from rfl, show (!true) = false from rfl, Bool.false_or, Bool.or_true, forall_const, true_implies, List.length_map, AV.isAgg, AV.sz]
    repeat (first | (refine And.intro ?_ ?_; · first | (intro _; first | omega | (exact ⟨by omega, by simp; omega⟩)) | (simp; omega) | (exact ⟨by omega, by simp; omega⟩)) | refine peel ?_)
    refine hK _ _ _ ?_; clear hK K
    refine awp_cnd (fun hb => ?_) (fun hb => ?_)
    ·skip
     exact absurd hb (by simp)
     --dead
    ·skip
     refine awp_skip ?_
     try simp only [go_sem, ↓reduceIte, Nat.reduceEqDiff, Nat.reduceLT, Nat.reduceSub, Nat.reduceAdd, Nat.reduceMul]
     refine hK4 _ _ _ ?_
     first | clear hK4 K4 | skip
     refine awp_reg1 zs [0, 1, 5, 6] fun K hK => ?_
     try simp only [go_sem, ↓reduceIte, Nat.reduceEqDiff, Nat.reduceLT, Nat.reduceSub, Nat.reduceAdd, Nat.reduceMul]
     repeat refine peel ?_
     refine hK _ _ _ ?_; clear hK K
     try simp only [go_sem, ↓reduceIte, Nat.reduceEqDiff, Nat.reduceLT, Nat.reduceSub, Nat.reduceAdd, Nat.reduceMul]
     exact ⟨⟨i + 1, by omega, by rw [w1 (by omega)]⟩, by rw [w1 (by omega)]; simp; omega⟩
   ·skip
    refine awp_exit ?_
    try simp only [go_sem, ↓reduceIte, Nat.reduceEqDiff, Nat.reduceLT, Nat.reduceSub, Nat.reduceAdd, Nat.reduceMul]
    refine hK2 _ _ _ ?_
    first | clear hK2 K2 | skip
    refine awp_rq zs [4] ?_
    refine awp_ret ?_
    try simp only [go_sem, ↓reduceIte, Nat.reduceEqDiff, Nat.reduceLT, Nat.reduceSub, Nat.reduceAdd, Nat.reduceMul]

theorem l_ref3_Copied (p : Lp) (b : List UInt8) (hb : b.length ≤ 140737488355328) (H : Heap) (n : Nat) (hp : p.here H b) : Ret Tryz.prog 61 [p.av b.length] H n (bys b) H n := by
  obtain ⟨hat, hlen, htk⟩ := hp
  refine acalls_of_awp Tryz.func61 rfl Tryz.ntmps61 (congrArg Array.toList Tryz.results61) (by simp) ?_
  simp only [go_sem]
  refine awp_rq zs [0] ?_
  refine awp_rq zs [0, 3] ?_
  refine awp_reg zs [2] fun K hK => ?_
  try simp only [go_sem, ↓reduceIte, Nat.reduceEqDiff, Nat.reduceLT, Nat.reduceSub, Nat.reduceAdd, Nat.reduceMul, hat, List.drop_zero, htk]
  repeat (first | (refine And.intro ?_ ?_; · first | (simp; omega) | exact ⟨rfl, by omega⟩ | exact ⟨⟨rfl, by omega⟩, .inr rfl, by simp; omega, by simp; omega⟩) | refine peel ?_)
  refine hK _ _ _ ?_; clear hK K
  refine awp_ret ?_
  try simp only [go_sem, ↓reduceIte, Nat.reduceEqDiff, Nat.reduceLT, Nat.reduceSub, Nat.reduceAdd, Nat.reduceMul]

theorem l_ref3_Clone (x : LEnt) (he : x.e.fits) (H : Heap) (n : Nat) (hx : x.ok H n) : Ret Tryz.prog 34 [lentAV x] H n (entAV x.e) H n := by
  obtain ⟨h1, h2, h3⟩ := he
  have zr : x.r.k ≠ n := by have := hx.r.lt; omega
  have zr9 : ∀ j, x.r.k ≠ n + j := fun j => by have := hx.r.lt; omega
  have zq : x.q.k ≠ n := by have := hx.q.lt; omega
  have zq9 : ∀ j, x.q.k ≠ n + j := fun j => by have := hx.q.lt; omega
  have zv : x.v.k ≠ n := by have := hx.v.lt; omega
  have zv9 : ∀ j, x.v.k ≠ n + j := fun j => by have := hx.v.lt; omega
  refine Ret.fin ?_
  refine acalls_of_awp Tryz.func34 rfl Tryz.ntmps34 (congrArg Array.toList Tryz.results34) (by simp) ?_
  simp only [go_sem]
  refine awp_rq zs [1, 2] ?_
  refine awp_reg zs [1, 2] fun K hK => ?_
  try simp only [go_sem, ↓reduceIte, Nat.reduceEqDiff, Nat.reduceLT, Nat.reduceSub, Nat.reduceAdd, Nat.reduceMul]
  repeat refine peel ?_
  refine callK_use Tryz.func61 rfl rfl rfl ((l_ref3_Copied x.r x.e.row h1 _ _ (hx.r.tohere.mono (by simp [Heap.put, zr, zr9])))) ?_
  try simp only [go_sem, ↓reduceIte, Nat.reduceEqDiff, Nat.reduceLT, Nat.reduceSub, Nat.reduceAdd, Nat.reduceMul]
  repeat refine peel ?_
  refine hK _ _ _ ?_; clear hK K
  refine awp_reg zs [1, 2] fun K hK => ?_
  try simp only [go_sem, ↓reduceIte, Nat.reduceEqDiff, Nat.reduceLT, Nat.reduceSub, Nat.reduceAdd, Nat.reduceMul]
  repeat refine peel ?_
  refine callK_use Tryz.func61 rfl rfl rfl ((l_ref3_Copied x.q x.e.qual h2 _ _ (hx.q.tohere.mono (by simp [Heap.put, zq, zq9])))) ?_
  try simp only [go_sem, ↓reduceIte, Nat.reduceEqDiff, Nat.reduceLT, Nat.reduceSub, Nat.reduceAdd, Nat.reduceMul]
  repeat refine peel ?_
  refine hK _ _ _ ?_; clear hK K
  refine awp_reg zs [1, 2] fun K hK => ?_
  try simp only [go_sem, ↓reduceIte, Nat.reduceEqDiff, Nat.reduceLT, Nat.reduceSub, Nat.reduceAdd, Nat.reduceMul]
  repeat refine peel ?_
  refine callK_use Tryz.func61 rfl rfl rfl ((l_ref3_Copied x.v x.e.value h3 _ _ (hx.v.tohere.mono (by simp [Heap.put, zv, zv9])))) ?_
  try simp only [go_sem, ↓reduceIte, Nat.reduceEqDiff, Nat.reduceLT, Nat.reduceSub, Nat.reduceAdd, Nat.reduceMul]
  repeat refine peel ?_
  refine hK _ _ _ ?_; clear hK K
  refine awp_rq zs [2] ?_
  refine awp_ret ?_
  try simp only [go_sem, ↓reduceIte, Nat.reduceEqDiff, Nat.reduceLT, Nat.reduceSub, Nat.reduceAdd, Nat.reduceMul]
  refine ⟨_, rfl, ?_, Frz.eq rfl (kl_ent x.e n)⟩
  intro k hk; have h0 : k ≠ n := by omega
  have h1 : ∀ j, k ≠ n + j := fun j => by omega
  simp [Heap.put, h0, h1]

theorem l_ref3_CloneAll (p : Lp) (l : List LEnt) (hl : l.length ≤ 1000000000) (hf : ∀ x ∈ l, x.e.fits) (H : Heap) (n : Nat) (hL : LList H n p l) : Ret Tryz.prog 13 [p.av l.length] H n (entsAV (l.map (·.e))) H n := by
  have hlt9 := hL.lt
  refine Ret.fin ?_
  refine acalls_of_awp Tryz.func13 rfl Tryz.ntmps13 (congrArg Array.toList Tryz.results13) (by simp) ?_
  simp only [go_sem]
  refine awp_rq zs [0] ?_
  refine awp_rq zs [0, 3] ?_
  refine awp_seq_k fun K1 hK1 => ?_
  refine awp_adopt_tmp 3 7 rfl ?_
  refine awp_rq zs [0, 3, 4] ?_
  refine awp_block ?_
  -- loop 0: head [0, 3, 4]
  refine awp_loop (fun T' H' n' => ∃ i : Nat, i ≤ l.length ∧ T' = tl [(0, .osl p.k p.ver 0 l.length), (3, .osl n i 0 i), (4, .int .i64 i)] ∧ H' = H.put n (some (.arr i 7 (((l.map (·.e)).take i).map entAV))) ∧ n' = n + 1) (fun T' _ _ => l.length - iv (T' 4)) ?_ ?_
  ·skip
   exact ⟨0, Nat.zero_le _, rfl, rfl, rfl⟩
  intro T1 H1 n1
  rintro ⟨i, hi, rfl, rfl, rfl⟩
  refine awp_seq_k fun K2 hK2 => ?_
  refine awp_rq zs [0, 3, 4, 8] ?_
  refine awp_cnd (fun hb => ?_) (fun hb => ?_)
  ·skip
   have hlt : i < l.length := by simpa using hb
   have hnth : nth p.els i = lentAV (l.getD i default) := hL.nth hlt
   have hii : i < p.els.length := by have := hL.len; omega
   have hmem : l.getD i default ∈ l := by simp [List.getD, List.getElem?_eq_getElem hlt]
   have htk : (l.map (·.e)).take (i + 1) = (l.map (·.e)).take i ++ [(l.getD i default).e] := by rw [List.take_add_one]; simp [List.getD, List.getElem?_eq_getElem hlt]
   generalize l.getD i default = x at *
   have hxo := hL.ok x hmem
   have hpk : (H.put n (some (.arr i 7 (((l.map (·.e)).take i).map entAV)))) p.k = some (.arr p.ver 7 p.els) := (Heap.put_ne _ _ (by omega)).trans hL.at'
   have r1 : (p.k = n) = False := by simp; omega
   have r2 : (n = p.k) = False := by simp; omega
   have hat9 := hL.at'
   have hmin : min i l.length = i := by omega
   refine awp_skip ?_
   try simp only [go_sem, ↓reduceIte, Nat.reduceEqDiff, Nat.reduceLT, Nat.reduceSub, Nat.reduceAdd, Nat.reduceMul]
   refine hK2 _ _ _ ?_
   first | clear hK2 K2 | skip
   refine awp_seq_k fun K3 hK3 => ?_
   refine awp_block ?_
   refine awp_reg1 zs [0, 3, 4] fun K hK => ?_
   try simp only [go_sem, ↓reduceIte, Nat.reduceEqDiff, Nat.reduceLT, Nat.reduceSub, Nat.reduceAdd, Nat.reduceMul, Int.toNat_natCast, hnth, hat9, r1, r2]
   repeat (first | (refine And.intro ?_ ?_; · first | exact hii | exact ⟨rfl, hii, by simp, trivial, trivial, rfl⟩ | exact ⟨rfl, by decide, by simp [AV.sz, AV.szs, AV.memOK]⟩ | (simp; omega)) | refine peel ?_)
   refine callK_use Tryz.func34 rfl rfl rfl ((l_ref3_Clone x (hf x hmem) _ _ (hxo.mono (fun k hk => Heap.put_ne _ _ (by omega)) (by omega)))) ?_
   try simp only [go_sem, ↓reduceIte, Nat.reduceEqDiff, Nat.reduceLT, Nat.reduceSub, Nat.reduceAdd, Nat.reduceMul, Int.toNat_natCast, hnth, hat9, r1, r2]
   repeat (first | (refine And.intro ?_ ?_; · first | exact hii | exact ⟨rfl, hii, by simp, trivial, trivial, rfl⟩ | exact ⟨rfl, by decide, by simp [AV.sz, AV.szs, AV.memOK]⟩ | (simp; omega)) | refine peel ?_)
   refine hK _ _ _ ?_; clear hK K
   try simp only [go_sem, ↓reduceIte, Nat.reduceEqDiff, Nat.reduceLT, Nat.reduceSub, Nat.reduceAdd, Nat.reduceMul]
   refine hK3 _ _ _ ?_
   first | clear hK3 K3 | skip
   refine awp_reg1 zs [0, 3, 4] fun K hK => ?_
   try simp only [go_sem, ↓reduceIte, Nat.reduceEqDiff, Nat.reduceLT, Nat.reduceSub, Nat.reduceAdd, Nat.reduceMul]
   repeat refine peel ?_
   refine hK _ _ _ ?_; clear hK K
   try simp only [go_sem, ↓reduceIte, Nat.reduceEqDiff, Nat.reduceLT, Nat.reduceSub, Nat.reduceAdd, Nat.reduceMul]
   refine ⟨⟨i + 1, by omega, by rw [w1 (by omega)], ?_⟩, by rw [w1 (by omega)]; simp; omega⟩
   rw [htk]; simp [List.take_take]; rfl
  ·skip
   have hge : i = l.length := by simp at hb; omega
   refine awp_exit ?_
   try simp only [go_sem, ↓reduceIte, Nat.reduceEqDiff, Nat.reduceLT, Nat.reduceSub, Nat.reduceAdd, Nat.reduceMul]
   refine hK1 _ _ _ ?_
   first | clear hK1 K1 | skip
   refine awp_rq zs [2] ?_
   refine awp_ret ?_
   try simp only [go_sem, ↓reduceIte, Nat.reduceEqDiff, Nat.reduceLT, Nat.reduceSub, Nat.reduceAdd, Nat.reduceMul]
   refine ⟨_, rfl, fun k hk => Heap.put_ne _ _ (by omega), .osl (Heap.put_same _ _ _) (Nat.le_refl _) (by simp; omega) ?_⟩
   rw [hge, List.drop_zero, List.take_of_length_le (l := l.map (·.e)) (by simp), List.take_of_length_le (by simp)]; exact FrzL.kls _ (kls_ents _ _)
theorem a_ref3_CloneAll {H : Heap} {n0 m : Nat} {l : List Ent} (hL : Laid H n0 l) (hm : n0 + 3 + 4 * l.length ≤ m) (hl : l.length ≤ 1048576) (hf : ∀ e ∈ l, e.fits) : Ret Tryz.prog 13 [.osl (n0 + 1) (l.length + 1) 0 l.length] H m (entsAV l) H m := by
  have h := l_ref3_CloneAll (lp n0 l) (lxs n0 l l.length) (by rw [lxs_len]; omega) (fun x hx => by
    have : x.e ∈ (lxs n0 l l.length).map (·.e) := List.mem_map.2 ⟨x, hx, rfl⟩
    rw [lxs_all] at this; exact hf _ this) H m (hL.ok hm)
  rw [lxs_all, lxs_len] at h; exact h
end Go.Proofs.YtijhkfhflpmajaaGreat


namespace Go.Proofs.YtijhkfhflpmajaaGreat
open Go Go.Sx Go.Rt Go.Proofs

set_option maxRecDepth 100000 in
set_option maxHeartbeats 8000000 in
theorem c_law_RetainLent (o : AskE) (ho : o.ok) (turns : List TurnE) (htn : turns.length ≤ 1048576) (H : Heap) (n : Nat) : Ret Tryz.prog 7 [askAV o, turnsAV turns] H n (.bool true) H n := by
  obtain ⟨kind, s, clock, t, vn, major, l0⟩ := o
  have hl : l0.length ≤ 1048576 := ho.len
  have hf : ∀ e ∈ l0, e.fits := ho.f
  have hf2 : ∀ e ∈ l0, e.row.length ≤ 1048576 ∧ e.qual.length ≤ 1048576 ∧ e.value.length ≤ 1048576 := ho.fits
  refine Ret.fin ?_
  refine acalls_of_awp Tryz.func7 rfl Tryz.ntmps7 (congrArg Array.toList Tryz.results7) (by simp) ?_
  simp only [go_sem]
  refine awp_rq zs [1, 2] ?_
  refine awp_reg zs [1, 2, 5] fun K hK => ?_
  try simp only [go_sem, ↓reduceIte, Nat.reduceEqDiff, Nat.reduceLT, Nat.reduceSub, Nat.reduceAdd, Nat.reduceMul]
  repeat refine peel ?_
  refine callK_use Tryz.func11 rfl rfl rfl ((c_law_started _ _)) ?_
  try simp only [go_sem, ↓reduceIte, Nat.reduceEqDiff, Nat.reduceLT, Nat.reduceSub, Nat.reduceAdd, Nat.reduceMul]
  repeat refine peel ?_
  refine hK _ _ _ ?_; clear hK K
  refine awp_reg zs [1, 2, 5, 6] fun K hK => ?_
  try simp only [go_sem, ↓reduceIte, Nat.reduceEqDiff, Nat.reduceLT, Nat.reduceSub, Nat.reduceAdd, Nat.reduceMul]
  repeat refine peel ?_
  refine callK_useK (args' := [entsAV l0]) Tryz.func12 rfl rfl rfl (c_law_laid l0 (by omega) (fun e he => ⟨hf e he, by have := hf2 e he; omega⟩) _ _) ?_ ?_
  rotate_left
  · intro p H' n' h; cases h.1
  rintro r H0 n00 ⟨hr1, hn1, hLd0, hrest0⟩
  cases hr1
  have hroom0 := hLd0.room
  have hHn0 : H0 n = some (.arr 0 7 [askAV ⟨kind, s, clock, t, vn, major, l0⟩]) := (hrest0 n (by omega)).trans (Heap.put_same _ _ _)
  have hlow0 : ∀ k, k < n → H0 k = H k := fun k hk => (hrest0 k (by omega)).trans (Heap.put_ne _ _ (by omega))
  have hls0 : H0 (n + 2) = _ := hLd0.ls
  clear hrest0
  try simp only [go_sem, ↓reduceIte, Nat.reduceEqDiff, Nat.reduceLT, Nat.reduceSub, Nat.reduceAdd, Nat.reduceMul]
  repeat refine peel ?_
  refine hK _ _ _ ?_; clear hK K
  refine awp_drw rfl zs [1, 2, 5, 6, 7] [.m, .q, .q, .q, .q, .q, .q, .q, .q] (by kernel_rfl) (fun _ _ _ _ _ h => h) fun K hK => ?_
  try simp only [go_sem, ↓reduceIte, Nat.reduceEqDiff, Nat.reduceLT, Nat.reduceSub, Nat.reduceAdd, Nat.reduceMul, hHn0, hroom0, hls0, List.length_map, Option.getD_some, Option.getD_none, Int.toNat_natCast, Int.toNat_zero, Nat.sub_zero]
  repeat (first | (refine And.intro ?_ ?_; · first | exact ⟨by omega, by omega, by omega, fun m hm => by cases hm⟩) | refine peel ?_)
  refine hK _ _ _ ?_; clear hK K
  refine awp_seq_k fun K1 hK1 => ?_
  refine awp_rq zs [1, 2, 5, 6, 7, 8] ?_
  refine awp_block ?_
  -- loop 0: head [1, 2, 5, 6, 7, 8]
  refine awp_loop (fun T' H' n' => ∃ (i : Nat) (l : List Ent), i ≤ turns.length + 1 ∧ l.length = l0.length ∧ (∀ e ∈ l, e.row.length ≤ 1048576 ∧ e.qual.length ≤ 1048576 ∧ e.value.length ≤ 1048576) ∧ T' = tl [(1, .sl 3 (turns.map turnAV)), (2, .loc n 0 0 0 []), (5, .bool true), (6, .loc (n + 1) 0 0 0 []), (7, .osl (n + 2) (l.length + 1) 0 l.length), (8, .int .i64 i)] ∧ n + 1 + 3 + 4 * l.length ≤ n' ∧ Laid H' (n + 1) l ∧ H' n = some (.arr 0 7 [askAV ⟨kind, s, clock, t, vn, major, l0⟩]) ∧ ∀ k, k < n → H' k = H k) (fun T' _ _ => turns.length + 1 - iv (T' 8)) ?_ ?_
  ·skip
   exact ⟨0, l0, Nat.zero_le _, rfl, hf2, rfl, by omega, hLd0, hHn0, hlow0⟩
  intro T1 H1 n1
  rintro ⟨i, l, hi, hll, hlf2, rfl, hn, hLd, hHn, hlow⟩
  have hlf : ∀ e ∈ l, e.fits := fun e he => by have := hlf2 e he; exact ⟨by omega, by omega, by omega⟩
  have hl9 : l.length ≤ 1048576 := by omega
  refine awp_seq_k fun K2 hK2 => ?_
  refine awp_reg zs [1, 2, 5, 6, 7, 8, 38] fun K hK => ?_
  try simp only [go_sem, ↓reduceIte, Nat.reduceEqDiff, Nat.reduceLT, Nat.reduceSub, Nat.reduceAdd, Nat.reduceMul, List.length_map]
  repeat refine peel ?_
  refine hK _ _ _ ?_; clear hK K
  refine awp_cnd (fun hb => ?_) (fun hb => ?_)
  ·skip
   have hlt : i ≤ turns.length := by by_cases h : i ≤ turns.length; exact h; simp [h] at hb
   refine awp_skip ?_
   try simp only [go_sem, ↓reduceIte, Nat.reduceEqDiff, Nat.reduceLT, Nat.reduceSub, Nat.reduceAdd, Nat.reduceMul]
   refine hK2 _ _ _ ?_
   first | clear hK2 K2 | skip
   refine awp_seq_k fun K3 hK3 => ?_
   refine awp_block ?_
   refine awp_reg zs [1, 2, 6, 7, 8, 9] fun K hK => ?_
   try simp only [go_sem, ↓reduceIte, Nat.reduceEqDiff, Nat.reduceLT, Nat.reduceSub, Nat.reduceAdd, Nat.reduceMul]
   repeat refine peel ?_
   refine callK_use Tryz.func13 rfl rfl rfl ((a_ref3_CloneAll hLd (by omega) hl9 hlf)) ?_
   try simp only [go_sem, ↓reduceIte, Nat.reduceEqDiff, Nat.reduceLT, Nat.reduceSub, Nat.reduceAdd, Nat.reduceMul]
   repeat refine peel ?_
   refine hK _ _ _ ?_; clear hK K
   have hx1 := rSortE_len l
   have hx2 := rVisE_len s clock l
   have hx3 := rReadE_len s clock t vn l
   have hx4 := rSquashE_len s clock major t l
   refine awp_reg zs [1, 2, 6, 7, 8, 9, 10, 11] fun K hK => ?_
   try simp only [go_sem, ↓reduceIte, Nat.reduceEqDiff, Nat.reduceLT, Nat.reduceSub, Nat.reduceAdd, Nat.reduceMul, List.getD_cons_zero, List.getD_cons_succ]
   repeat refine peel ?_
   refine callK_use Tryz.func14 rfl rfl rfl ((a_retain_Sort hLd (by omega) hl9)) ?_
   try simp only [go_sem, ↓reduceIte, Nat.reduceEqDiff, Nat.reduceLT, Nat.reduceSub, Nat.reduceAdd, Nat.reduceMul, List.getD_cons_zero, List.getD_cons_succ]
   repeat refine peel ?_
   refine hK _ _ _ ?_; clear hK K
   refine awp_reg zs [1, 2, 6, 7, 8, 9, 10, 11, 12, 13] fun K hK => ?_
   try simp only [go_sem, ↓reduceIte, Nat.reduceEqDiff, Nat.reduceLT, Nat.reduceSub, Nat.reduceAdd, Nat.reduceMul, List.getD_cons_zero, List.getD_cons_succ]
   repeat refine peel ?_
   refine callK_use Tryz.func15 rfl rfl rfl ((c_ref3_Sort l (by omega) hlf _ _)) ?_
   try simp only [go_sem, ↓reduceIte, Nat.reduceEqDiff, Nat.reduceLT, Nat.reduceSub, Nat.reduceAdd, Nat.reduceMul, List.getD_cons_zero, List.getD_cons_succ]
   repeat refine peel ?_
   refine hK _ _ _ ?_; clear hK K
   refine awp_reg zs [1, 2, 5, 6, 7, 8, 9] fun K hK => ?_
   try simp only [go_sem, ↓reduceIte, Nat.reduceEqDiff, Nat.reduceLT, Nat.reduceSub, Nat.reduceAdd, Nat.reduceMul, beq_self_eq_true, show (true == true) = true from rfl, show (true == false) = false from rfl, forall_const, true_implies, Bool.false_or, Bool.or_true]
   repeat refine peel ?_
   refine callK_use Tryz.func16 rfl rfl rfl ((by apply c_law_num <;> first | assumption | omega)) ?_
   try simp only [go_sem, ↓reduceIte, Nat.reduceEqDiff, Nat.reduceLT, Nat.reduceSub, Nat.reduceAdd, Nat.reduceMul, beq_self_eq_true, show (true == true) = true from rfl, show (true == false) = false from rfl, forall_const, true_implies, Bool.false_or, Bool.or_true]
   repeat refine peel ?_
   refine callG_use Tryz.func17 rfl rfl rfl (fun _ => (a_ref3_SameAll (rSortE l).1 (by omega) _ _)) ?_
   try simp only [go_sem, ↓reduceIte, Nat.reduceEqDiff, Nat.reduceLT, Nat.reduceSub, Nat.reduceAdd, Nat.reduceMul, beq_self_eq_true, show (true == true) = true from rfl, show (true == false) = false from rfl, forall_const, true_implies, Bool.false_or, Bool.or_true]
   repeat refine peel ?_
   refine hK _ _ _ ?_; clear hK K
   refine awp_reg zs [1, 2, 5, 6, 7, 8, 9, 10, 11] fun K hK => ?_
   try simp only [go_sem, ↓reduceIte, Nat.reduceEqDiff, Nat.reduceLT, Nat.reduceSub, Nat.reduceAdd, Nat.reduceMul, List.getD_cons_zero, List.getD_cons_succ, hHn]
   repeat refine peel ?_
   refine callK_use Tryz.func18 rfl rfl rfl ((a_retain_Vis hLd (by omega) hl9 s clock)) ?_
   try simp only [go_sem, ↓reduceIte, Nat.reduceEqDiff, Nat.reduceLT, Nat.reduceSub, Nat.reduceAdd, Nat.reduceMul, List.getD_cons_zero, List.getD_cons_succ, hHn]
   repeat refine peel ?_
   refine hK _ _ _ ?_; clear hK K
   refine awp_reg zs [1, 2, 5, 6, 7, 8, 9, 10, 11, 12, 13] fun K hK => ?_
   try simp only [go_sem, ↓reduceIte, Nat.reduceEqDiff, Nat.reduceLT, Nat.reduceSub, Nat.reduceAdd, Nat.reduceMul, List.getD_cons_zero, List.getD_cons_succ, hHn]
   repeat refine peel ?_
   refine callK_use Tryz.func19 rfl rfl rfl ((c_ref3_Vis s clock l (by omega) hlf _ _)) ?_
   try simp only [go_sem, ↓reduceIte, Nat.reduceEqDiff, Nat.reduceLT, Nat.reduceSub, Nat.reduceAdd, Nat.reduceMul, List.getD_cons_zero, List.getD_cons_succ, hHn]
   repeat refine peel ?_
   refine hK _ _ _ ?_; clear hK K
   refine awp_reg zs [1, 2, 5, 6, 7, 8, 9] fun K hK => ?_
   try simp only [go_sem, ↓reduceIte, Nat.reduceEqDiff, Nat.reduceLT, Nat.reduceSub, Nat.reduceAdd, Nat.reduceMul, beq_self_eq_true, show (true == true) = true from rfl, show (true == false) = false from rfl, forall_const, true_implies, Bool.false_or, Bool.or_true]
   repeat refine peel ?_
   refine callG_use Tryz.func16 rfl rfl rfl (fun _ => (by apply c_law_num <;> first | assumption | omega)) ?_
   try simp only [go_sem, ↓reduceIte, Nat.reduceEqDiff, Nat.reduceLT, Nat.reduceSub, Nat.reduceAdd, Nat.reduceMul, beq_self_eq_true, show (true == true) = true from rfl, show (true == false) = false from rfl, forall_const, true_implies, Bool.false_or, Bool.or_true]
   repeat refine peel ?_
   refine callG_use Tryz.func17 rfl rfl rfl (fun _ => (a_ref3_SameAll (rVisE s clock l).1 (by omega) _ _)) ?_
   try simp only [go_sem, ↓reduceIte, Nat.reduceEqDiff, Nat.reduceLT, Nat.reduceSub, Nat.reduceAdd, Nat.reduceMul, beq_self_eq_true, show (true == true) = true from rfl, show (true == false) = false from rfl, forall_const, true_implies, Bool.false_or, Bool.or_true]
   repeat refine peel ?_
   refine hK _ _ _ ?_; clear hK K
   refine awp_reg zs [1, 2, 5, 6, 7, 8, 9, 10, 11] fun K hK => ?_
   try simp only [go_sem, ↓reduceIte, Nat.reduceEqDiff, Nat.reduceLT, Nat.reduceSub, Nat.reduceAdd, Nat.reduceMul, List.getD_cons_zero, List.getD_cons_succ, hHn]
   repeat refine peel ?_
   refine callK_use Tryz.func20 rfl rfl rfl ((a_retain_Read hLd (by omega) hl9 s clock t vn)) ?_
   try simp only [go_sem, ↓reduceIte, Nat.reduceEqDiff, Nat.reduceLT, Nat.reduceSub, Nat.reduceAdd, Nat.reduceMul, List.getD_cons_zero, List.getD_cons_succ, hHn]
   repeat refine peel ?_
   refine hK _ _ _ ?_; clear hK K
   refine awp_reg zs [1, 2, 5, 6, 7, 8, 9, 10, 11, 12, 13] fun K hK => ?_
   try simp only [go_sem, ↓reduceIte, Nat.reduceEqDiff, Nat.reduceLT, Nat.reduceSub, Nat.reduceAdd, Nat.reduceMul, List.getD_cons_zero, List.getD_cons_succ, hHn]
   repeat refine peel ?_
   refine callK_use Tryz.func21 rfl rfl rfl ((c_ref3_Read s clock t vn l (by omega) hlf _ _)) ?_
   try simp only [go_sem, ↓reduceIte, Nat.reduceEqDiff, Nat.reduceLT, Nat.reduceSub, Nat.reduceAdd, Nat.reduceMul, List.getD_cons_zero, List.getD_cons_succ, hHn]
   repeat refine peel ?_
   refine hK _ _ _ ?_; clear hK K
   refine awp_reg zs [1, 2, 5, 6, 7, 8, 9] fun K hK => ?_
   try simp only [go_sem, ↓reduceIte, Nat.reduceEqDiff, Nat.reduceLT, Nat.reduceSub, Nat.reduceAdd, Nat.reduceMul, beq_self_eq_true, show (true == true) = true from rfl, show (true == false) = false from rfl, forall_const, true_implies, Bool.false_or, Bool.or_true]
   repeat refine peel ?_
   refine callG_use Tryz.func16 rfl rfl rfl (fun _ => (by apply c_law_num <;> first | assumption | omega)) ?_
   try simp only [go_sem, ↓reduceIte, Nat.reduceEqDiff, Nat.reduceLT, Nat.reduceSub, Nat.reduceAdd, Nat.reduceMul, beq_self_eq_true, show (true == true) = true from rfl, show (true == false) = false from rfl, forall_const, true_implies, Bool.false_or, Bool.or_true]
   repeat refine peel ?_
   refine callG_use Tryz.func17 rfl rfl rfl (fun _ => (a_ref3_SameAll (rReadE s clock t vn l).1 (by omega) _ _)) ?_
   try simp only [go_sem, ↓reduceIte, Nat.reduceEqDiff, Nat.reduceLT, Nat.reduceSub, Nat.reduceAdd, Nat.reduceMul, beq_self_eq_true, show (true == true) = true from rfl, show (true == false) = false from rfl, forall_const, true_implies, Bool.false_or, Bool.or_true]
   repeat refine peel ?_
   refine hK _ _ _ ?_; clear hK K
   refine awp_reg zs [1, 2, 5, 6, 7, 8, 9, 10, 11] fun K hK => ?_
   try simp only [go_sem, ↓reduceIte, Nat.reduceEqDiff, Nat.reduceLT, Nat.reduceSub, Nat.reduceAdd, Nat.reduceMul, List.getD_cons_zero, List.getD_cons_succ, hHn]
   repeat refine peel ?_
   refine callK_use Tryz.func22 rfl rfl rfl ((a_retain_Squash hLd (by omega) hl9 s clock t major)) ?_
   try simp only [go_sem, ↓reduceIte, Nat.reduceEqDiff, Nat.reduceLT, Nat.reduceSub, Nat.reduceAdd, Nat.reduceMul, List.getD_cons_zero, List.getD_cons_succ, hHn]
   repeat refine peel ?_
   refine hK _ _ _ ?_; clear hK K
   refine awp_reg zs [1, 2, 5, 6, 7, 8, 9, 10, 11, 12, 13] fun K hK => ?_
   try simp only [go_sem, ↓reduceIte, Nat.reduceEqDiff, Nat.reduceLT, Nat.reduceSub, Nat.reduceAdd, Nat.reduceMul, List.getD_cons_zero, List.getD_cons_succ, hHn]
   repeat refine peel ?_
   refine callK_use Tryz.func23 rfl rfl rfl ((c_ref3_Squash s clock t major l (by omega) hlf _ _)) ?_
   try simp only [go_sem, ↓reduceIte, Nat.reduceEqDiff, Nat.reduceLT, Nat.reduceSub, Nat.reduceAdd, Nat.reduceMul, List.getD_cons_zero, List.getD_cons_succ, hHn]
   repeat refine peel ?_
   refine hK _ _ _ ?_; clear hK K
   refine awp_reg zs [1, 2, 5, 6, 7, 8, 9] fun K hK => ?_
   try simp only [go_sem, ↓reduceIte, Nat.reduceEqDiff, Nat.reduceLT, Nat.reduceSub, Nat.reduceAdd, Nat.reduceMul, beq_self_eq_true, show (true == true) = true from rfl, show (true == false) = false from rfl, forall_const, true_implies, Bool.false_or, Bool.or_true]
   repeat refine peel ?_
   refine callG_use Tryz.func16 rfl rfl rfl (fun _ => (by apply c_law_num <;> first | assumption | omega)) ?_
   try simp only [go_sem, ↓reduceIte, Nat.reduceEqDiff, Nat.reduceLT, Nat.reduceSub, Nat.reduceAdd, Nat.reduceMul, beq_self_eq_true, show (true == true) = true from rfl, show (true == false) = false from rfl, forall_const, true_implies, Bool.false_or, Bool.or_true]
   repeat refine peel ?_
   refine callG_use Tryz.func17 rfl rfl rfl (fun _ => (a_ref3_SameAll (rSquashE s clock major t l).1 (by omega) _ _)) ?_
   try simp only [go_sem, ↓reduceIte, Nat.reduceEqDiff, Nat.reduceLT, Nat.reduceSub, Nat.reduceAdd, Nat.reduceMul, beq_self_eq_true, show (true == true) = true from rfl, show (true == false) = false from rfl, forall_const, true_implies, Bool.false_or, Bool.or_true]
   repeat refine peel ?_
   refine hK _ _ _ ?_; clear hK K
   refine awp_reg zs [1, 2, 5, 6, 7, 8, 9, 11, 14] fun K hK => ?_
   try simp only [go_sem, ↓reduceIte, Nat.reduceEqDiff, Nat.reduceLT, Nat.reduceSub, Nat.reduceAdd, Nat.reduceMul, List.getD_cons_zero, List.getD_cons_succ, hHn]
   repeat refine peel ?_
   refine callK_use Tryz.func24 rfl rfl rfl ((a_retain_Top hLd (by omega) hl9 s clock)) ?_
   try simp only [go_sem, ↓reduceIte, Nat.reduceEqDiff, Nat.reduceLT, Nat.reduceSub, Nat.reduceAdd, Nat.reduceMul, List.getD_cons_zero, List.getD_cons_succ, hHn]
   repeat refine peel ?_
   refine hK _ _ _ ?_; clear hK K
   refine awp_reg zs [1, 2, 5, 6, 7, 8, 9, 11, 13, 14, 15] fun K hK => ?_
   try simp only [go_sem, ↓reduceIte, Nat.reduceEqDiff, Nat.reduceLT, Nat.reduceSub, Nat.reduceAdd, Nat.reduceMul, List.getD_cons_zero, List.getD_cons_succ, hHn]
   repeat refine peel ?_
   refine callK_use Tryz.func25 rfl rfl rfl ((c_ref3_Top s clock l (by omega) hlf _ _)) ?_
   try simp only [go_sem, ↓reduceIte, Nat.reduceEqDiff, Nat.reduceLT, Nat.reduceSub, Nat.reduceAdd, Nat.reduceMul, List.getD_cons_zero, List.getD_cons_succ, hHn]
   repeat refine peel ?_
   refine hK _ _ _ ?_; clear hK K
   refine awp_reg zs [1, 2, 5, 6, 7, 8] fun K hK => ?_
   try simp only [go_sem, ↓reduceIte, Nat.reduceEqDiff, Nat.reduceLT, Nat.reduceSub, Nat.reduceAdd, Nat.reduceMul, beq_self_eq_true, show (true == true) = true from rfl, show (true == false) = false from rfl, forall_const, true_implies, Bool.false_or, Bool.or_true]
   repeat refine peel ?_
   refine callG_use Tryz.func16 rfl rfl rfl (fun _ => (by apply c_law_num <;> first | assumption | omega)) ?_
   try simp only [go_sem, ↓reduceIte, Nat.reduceEqDiff, Nat.reduceLT, Nat.reduceSub, Nat.reduceAdd, Nat.reduceMul, beq_self_eq_true, show (true == true) = true from rfl, show (true == false) = false from rfl, forall_const, true_implies, Bool.false_or, Bool.or_true]
   repeat refine peel ?_
   refine callG_use Tryz.func26 rfl rfl rfl (fun _ => (c_law_still l (by omega) (fun e he => by have := hlf2 e he; omega) _ _ (n + 1) (by omega) hLd)) ?_
   try simp only [go_sem, ↓reduceIte, Nat.reduceEqDiff, Nat.reduceLT, Nat.reduceSub, Nat.reduceAdd, Nat.reduceMul, beq_self_eq_true, show (true == true) = true from rfl, show (true == false) = false from rfl, forall_const, true_implies, Bool.false_or, Bool.or_true]
   repeat refine peel ?_
   refine hK _ _ _ ?_; clear hK K
   refine awp_reg zs [1, 2, 5, 6, 7, 8, 206] fun K hK => ?_
   try simp only [go_sem, ↓reduceIte, Nat.reduceEqDiff, Nat.reduceLT, Nat.reduceSub, Nat.reduceAdd, Nat.reduceMul, List.length_map]
   repeat refine peel ?_
   refine hK _ _ _ ?_; clear hK K
   refine awp_cnd (fun hb => ?_) (fun hb => ?_)
   ·skip
    have hlt2 : i < turns.length := by simp at hb; omega
    have hnth : nth (turns.map turnAV) i = turnAV (turns.getD i default) := nth_map turnAV turns i hlt2
    refine awp_reg1 zs [1, 2, 5, 6, 7, 8] fun K hK => ?_
    try simp only [go_sem, ↓reduceIte, Nat.reduceEqDiff, Nat.reduceLT, Nat.reduceSub, Nat.reduceAdd, Nat.reduceMul, Int.toNat_natCast, hnth]
    repeat (first | (refine And.intro ?_ ?_; · first | (simp; omega)) | refine peel ?_)
    refine callK_useK (args' := [.osl (n + 2) (l.length + 1) 0 l.length, turnAV (turns.getD i default)]) Tryz.func27 rfl rfl rfl (c_law_bent l (by omega) hlf2 (turns.getD i default) _ _ (n + 1) (by omega) hLd) ?_ ?_
    rotate_left
    · intro p H' n' h; cases h.1
    rintro r H3 n3 ⟨hr3, hn3, hL3, hrest3⟩
    cases hr3
    try simp only [go_sem, ↓reduceIte, Nat.reduceEqDiff, Nat.reduceLT, Nat.reduceSub, Nat.reduceAdd, Nat.reduceMul, Int.toNat_natCast, hnth]
    repeat (first | (refine And.intro ?_ ?_; · first | (simp; omega)) | refine peel ?_)
    refine hK _ _ _ ?_; clear hK K
    try simp only [go_sem, ↓reduceIte, Nat.reduceEqDiff, Nat.reduceLT, Nat.reduceSub, Nat.reduceAdd, Nat.reduceMul]
    refine hK3 _ _ _ ?_
    first | clear hK3 K3 | skip
    refine awp_reg1 zs [1, 2, 5, 6, 7, 8] fun K hK => ?_
    try simp only [go_sem, ↓reduceIte, Nat.reduceEqDiff, Nat.reduceLT, Nat.reduceSub, Nat.reduceAdd, Nat.reduceMul]
    repeat refine peel ?_
    refine hK _ _ _ ?_; clear hK K
    try simp only [go_sem, ↓reduceIte, Nat.reduceEqDiff, Nat.reduceLT, Nat.reduceSub, Nat.reduceAdd, Nat.reduceMul]
    first
    | (have hbl := bentL_len (turns.getD i default) l
       refine ⟨⟨i + 1, bentL (turns.getD i default) l, by omega, by omega, bentL_ok hlf2, by rw [w1 (by omega), hbl], by omega, hL3, (hrest3 n (by omega)).trans hHn, fun k hk => (hrest3 k (by omega)).trans (hlow k hk)⟩, by rw [w1 (by omega)]; simp; omega⟩; done)
    | exact ⟨⟨i + 1, l, by omega, hll, hlf2, by rw [w1 (by omega)], by omega, hLd, hHn, hlow⟩, by rw [w1 (by omega)]; simp; omega⟩
   ·skip
    refine awp_skip ?_
    try simp only [go_sem, ↓reduceIte, Nat.reduceEqDiff, Nat.reduceLT, Nat.reduceSub, Nat.reduceAdd, Nat.reduceMul]
    refine hK3 _ _ _ ?_
    first | clear hK3 K3 | skip
    refine awp_reg1 zs [1, 2, 5, 6, 7, 8] fun K hK => ?_
    try simp only [go_sem, ↓reduceIte, Nat.reduceEqDiff, Nat.reduceLT, Nat.reduceSub, Nat.reduceAdd, Nat.reduceMul]
    repeat refine peel ?_
    refine hK _ _ _ ?_; clear hK K
    try simp only [go_sem, ↓reduceIte, Nat.reduceEqDiff, Nat.reduceLT, Nat.reduceSub, Nat.reduceAdd, Nat.reduceMul]
    first
    | (have hbl := bentL_len (turns.getD i default) l
       refine ⟨⟨i + 1, bentL (turns.getD i default) l, by omega, by omega, bentL_ok hlf2, by rw [w1 (by omega), hbl], by omega, hL3, (hrest3 n (by omega)).trans hHn, fun k hk => (hrest3 k (by omega)).trans (hlow k hk)⟩, by rw [w1 (by omega)]; simp; omega⟩; done)
    | exact ⟨⟨i + 1, l, by omega, hll, hlf2, by rw [w1 (by omega)], by omega, hLd, hHn, hlow⟩, by rw [w1 (by omega)]; simp; omega⟩
  ·skip
   refine awp_exit ?_
   try simp only [go_sem, ↓reduceIte, Nat.reduceEqDiff, Nat.reduceLT, Nat.reduceSub, Nat.reduceAdd, Nat.reduceMul]
   refine hK1 _ _ _ ?_
   first | clear hK1 K1 | skip
   refine awp_reg zs [4] fun K hK => ?_
   try simp only [go_sem, ↓reduceIte, Nat.reduceEqDiff, Nat.reduceLT, Nat.reduceSub, Nat.reduceAdd, Nat.reduceMul, beq_self_eq_true, show (true == true) = true from rfl, show (true == false) = false from rfl, forall_const, true_implies, Bool.false_or, Bool.or_true]
   repeat refine peel ?_
   refine callG_use Tryz.func11 rfl rfl rfl (fun _ => (c_law_started _ _)) ?_
   try simp only [go_sem, ↓reduceIte, Nat.reduceEqDiff, Nat.reduceLT, Nat.reduceSub, Nat.reduceAdd, Nat.reduceMul, beq_self_eq_true, show (true == true) = true from rfl, show (true == false) = false from rfl, forall_const, true_implies, Bool.false_or, Bool.or_true]
   repeat refine peel ?_
   refine hK _ _ _ ?_; clear hK K
   refine awp_ret ?_
   try simp only [go_sem, ↓reduceIte, Nat.reduceEqDiff, Nat.reduceLT, Nat.reduceSub, Nat.reduceAdd, Nat.reduceMul]
   exact ⟨_, rfl, hlow, .kl trivial⟩
end Go.Proofs.YtijhkfhflpmajaaGreat

