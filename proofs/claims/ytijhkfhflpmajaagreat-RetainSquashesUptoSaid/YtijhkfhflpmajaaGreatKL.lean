/- Own layer: the room that a list is lent out of: laid. Of the program; no condition. -/
import Derived.Test.YtijhkfhflpmajaaGreatKK
import Derived.Test.YtijhkfhflpmajaaGreatKG
set_option linter.unusedSimpArgs false
set_option linter.unusedVariables false
namespace Go.Proofs.YtijhkfhflpmajaaGreat
open Go Go.Sx Go.Rt Go.Proofs

def mkE (f : Int) : AV := .agg [.nilsl, .int .i64 f, .nilsl, .int .i64 0, .int .i64 0, .int .i64 0, .nilsl]
def lx (n i : Nat) (e : Ent) : LEnt := ⟨e, ⟨n + 3 + 4 * i, 2, (e.row ++ marksE).map byteAV⟩, ⟨n + 4 + 4 * i, 2, (e.qual ++ marksE).map byteAV⟩, ⟨n + 5 + 4 * i, 2, (e.value ++ marksE).map byteAV⟩⟩
def lxs (n : Nat) (l : List Ent) : Nat → List LEnt
  | 0 => []
  | i + 1 => lxs n l i ++ [lx n i (l.getD i default)]
def wx3 (n i : Nat) (e : Ent) : List AV := [.osl (n + 3 + 4 * i) 2 0 (e.row.length + 5), .osl (n + 4 + 4 * i) 2 0 (e.qual.length + 5), .osl (n + 5 + 4 * i) 2 0 (e.value.length + 5)]
def wx (n : Nat) (l : List Ent) : Nat → List AV
  | 0 => []
  | i + 1 => wx n l i ++ wx3 n i (l.getD i default)
theorem lxs_len (n : Nat) (l : List Ent) : ∀ i, (lxs n l i).length = i
  | 0 => rfl
  | i + 1 => by simp [lxs, lxs_len n l i]
theorem wx_len (n : Nat) (l : List Ent) : ∀ i, (wx n l i).length = 3 * i
  | 0 => rfl
  | i + 1 => by simp [wx, wx3, wx_len n l i]; omega
/-- the bytes of an entry lie there, marks behind -/
structure Lain (H : Heap) (n i : Nat) (e : Ent) : Prop where
  r : H (n + 3 + 4 * i) = some (.arr 2 1 ((e.row ++ marksE).map byteAV))
  q : H (n + 4 + 4 * i) = some (.arr 2 1 ((e.qual ++ marksE).map byteAV))
  v : H (n + 5 + 4 * i) = some (.arr 2 1 ((e.value ++ marksE).map byteAV))
theorem Lain.mono {H H' : Heap} {n i : Nat} {e : Ent} (h : Lain H n i e) (hH : ∀ k, n + 3 + 4 * i ≤ k → k ≤ n + 5 + 4 * i → H' k = H k) : Lain H' n i e :=
  ⟨(hH _ (by omega) (by omega)).trans h.r, (hH _ (by omega) (by omega)).trans h.q, (hH _ (by omega) (by omega)).trans h.v⟩
/-- the room -/
structure Laid (H : Heap) (n : Nat) (l : List Ent) : Prop where
  room : H n = some (.arr 0 2 [.agg [.osl (n + 1) (l.length + 1) 0 (l.length + 1), .osl (n + 2) l.length 0 (3 * l.length)]])
  ls : H (n + 1) = some (.arr (l.length + 1) 7 ((lxs n l l.length).map lentAV ++ [mkE (-9)]))
  ws : H (n + 2) = some (.arr l.length 1 (wx n l l.length))
  bs : ∀ j, j < l.length → Lain H n j (l.getD j default)

set_option maxHeartbeats 4000000 in
theorem c_law_laid (l : List Ent) (hl : l.length ≤ 100000000) (hf : ∀ e ∈ l, e.fits ∧ e.row.length ≤ 70000000000000 ∧ e.qual.length ≤ 70000000000000 ∧ e.value.length ≤ 70000000000000) (H : Heap) (n : Nat) :
    ACalls Tryz.prog 12 [entsAV l] H n fun res H' n' => res = .val (.loc n 0 0 0 []) ∧ n' = n + 3 + 4 * l.length ∧ Laid H' n l ∧ ∀ k, k < n → H' k = H k := by
  refine acalls_of_awp Tryz.func12 rfl Tryz.ntmps12 (congrArg Array.toList Tryz.results12) (by simp) ?_
  simp only [go_sem]
  refine awp_reg zs [0] fun K hK => ?_
  try simp only [go_sem, ↓reduceIte, Nat.reduceEqDiff, Nat.reduceLT, Nat.reduceSub, Nat.reduceAdd, Nat.reduceMul, Nat.add_assoc]
  repeat refine peel ?_
  refine hK _ _ _ ?_; clear hK K
  refine awp_reg zs [0, 3] fun K hK => ?_
  try simp only [go_sem, ↓reduceIte, Nat.reduceEqDiff, Nat.reduceLT, Nat.reduceSub, Nat.reduceAdd, Nat.reduceMul, Nat.add_assoc]
  repeat refine peel ?_
  refine hK _ _ _ ?_; clear hK K
  refine awp_seq_k fun K1 hK1 => ?_
  refine awp_adopt_obj n 7 (els' := [.agg [.osl (n + 1) 0 0 0, .nilsl]]) (Heap.put_same _ _ _) ⟨Adp.agg ⟨Adp.nilsl _, .refl _ _, trivial⟩, trivial⟩ ?_
  refine awp_adopt_obj n 1 (els' := [.agg [.osl (n + 1) 0 0 0, .osl (n + 2) 0 0 0]]) (Heap.put_same _ _ _) ⟨Adp.agg ⟨.refl _ _, Adp.nilsl _, trivial⟩, trivial⟩ ?_
  refine awp_reg zs [0, 3, 4] fun K hK => ?_
  try simp only [go_sem, ↓reduceIte, Nat.reduceEqDiff, Nat.reduceLT, Nat.reduceSub, Nat.reduceAdd, Nat.reduceMul, Nat.add_assoc]
  repeat refine peel ?_
  refine hK _ _ _ ?_; clear hK K
  refine awp_block ?_
  -- loop 0: head [0, 3, 4]
  refine awp_loop (fun T' H' n' => ∃ (i : Nat), i ≤ l.length ∧ T' = tl [(0, .sl 7 (l.map entAV)), (3, .loc n 0 0 0 []), (4, .int .i64 i)] ∧ n' = n + 3 + 4 * i ∧ H' n = some (.arr 0 2 [.agg [.osl (n + 1) i 0 (lxs n l i).length, .osl (n + 2) i 0 (wx n l i).length]]) ∧ H' (n + 1) = some (.arr i 7 ((lxs n l i).map lentAV)) ∧ H' (n + 2) = some (.arr i 1 (wx n l i)) ∧ (∀ j, j < i → Lain H' n j (l.getD j default)) ∧ (∀ k, k < n → H' k = H k)) (fun T' _ _ => l.length - iv (T' 4)) ?_ ?_
  ·skip
   refine ⟨0, Nat.zero_le _, rfl, rfl, ?_, ?_, ?_, fun j hj => absurd hj (by omega), ?_⟩
   · first | (simp [Heap.put, lxs, wx]; done) | (simp [Heap.put, lxs, wx]; rfl)
   · first | (simp [Heap.put]; done) | (simp [Heap.put]; rfl)
   · first | (simp [Heap.put]; done) | (simp [Heap.put]; rfl)
   · intro k hk; have h0 : k ≠ n := by omega
     have h1 : k ≠ n + 1 := by omega
     have h2 : k ≠ n + 2 := by omega
     simp [Heap.put, h0, h1, h2]
  intro T1 H1 n1
  rintro ⟨i, hi, rfl, hn, hHn, hHl, hHw, hbs, hrest⟩
  refine awp_seq_k fun K2 hK2 => ?_
  refine awp_reg zs [0, 3, 4, 14] fun K hK => ?_
  try simp only [go_sem, ↓reduceIte, Nat.reduceEqDiff, Nat.reduceLT, Nat.reduceSub, Nat.reduceAdd, Nat.reduceMul, Nat.add_assoc]
  repeat refine peel ?_
  refine hK _ _ _ ?_; clear hK K
  refine awp_cnd (fun hb => ?_) (fun hb => ?_)
  ·skip
   have hlt : i < l.length := by simpa using hb
   have hnth : nth (l.map entAV) i = entAV (l.getD i default) := nth_map entAV l i hlt
   have hfe := hf (l.getD i default) (by simp [List.getD, List.getElem?_eq_getElem hlt])
   have hl1 : lxs n l (i + 1) = lxs n l i ++ [lx n i (l.getD i default)] := rfl
   have hw1 : wx n l (i + 1) = wx n l i ++ wx3 n i (l.getD i default) := rfl
   have hll := lxs_len n l i
   have hwl := wx_len n l i
   generalize he : l.getD i default = e at *
   obtain ⟨hfi, hfr, hfq, hfv⟩ := hfe
   have k1 : n + 3 + 4 * i = n1 := hn.symm
   have k2' : n + 4 + 4 * i = n1 + 1 := by omega
   have k3' : n + 5 + 4 * i = n1 + 2 := by omega
   have qa : ∀ k, (n = n1 + k) = False := fun k => by simp; omega
   have qb : ∀ k, (n + 1 = n1 + k) = False := fun k => by simp; omega
   have qc : ∀ k, (n + 2 = n1 + k) = False := fun k => by simp; omega
   have qd : ∀ k, (n1 + k = n) = False := fun k => by simp; omega
   have qe : ∀ k, (n1 + k = n + 1) = False := fun k => by simp; omega
   have qf : ∀ k, (n1 + k = n + 2) = False := fun k => by simp; omega
   have qa0 : (n = n1) = False := by simp; omega
   have qb0 : (n + 1 = n1) = False := by simp; omega
   have qc0 : (n + 2 = n1) = False := by simp; omega
   have qd0 : (n1 = n) = False := by simp; omega
   have qe0 : (n1 = n + 1) = False := by simp; omega
   have qf0 : (n1 = n + 2) = False := by simp; omega
   refine awp_skip ?_
   try simp only [go_sem, ↓reduceIte, Nat.reduceEqDiff, Nat.reduceLT, Nat.reduceSub, Nat.reduceAdd, Nat.reduceMul, Nat.add_assoc]
   refine hK2 _ _ _ ?_
   first | clear hK2 K2 | skip
   refine awp_seq_k fun K3 hK3 => ?_
   refine awp_block ?_
   refine awp_reg zs [0, 3, 4, 5] fun K hK => ?_
   try simp only [go_sem, ↓reduceIte, Nat.reduceEqDiff, Nat.reduceLT, Nat.reduceSub, Nat.reduceAdd, Nat.reduceMul, Nat.add_assoc, Int.toNat_natCast, hnth]
   repeat (first | (refine And.intro ?_ ?_; · first | (simp; omega)) | refine peel ?_)
   refine callK_use Tryz.func33 rfl rfl rfl ((c_law_wide e.row hfr _ _)) ?_
   try simp only [go_sem, ↓reduceIte, Nat.reduceEqDiff, Nat.reduceLT, Nat.reduceSub, Nat.reduceAdd, Nat.reduceMul, Nat.add_assoc, Int.toNat_natCast, hnth]
   repeat (first | (refine And.intro ?_ ?_; · first | (simp; omega)) | refine peel ?_)
   refine hK _ _ _ ?_; clear hK K
   refine awp_reg zs [0, 3, 4, 5, 6] fun K hK => ?_
   try simp only [go_sem, ↓reduceIte, Nat.reduceEqDiff, Nat.reduceLT, Nat.reduceSub, Nat.reduceAdd, Nat.reduceMul, Nat.add_assoc, Int.toNat_natCast, hnth]
   repeat (first | (refine And.intro ?_ ?_; · first | (simp; omega)) | refine peel ?_)
   refine callK_use Tryz.func33 rfl rfl rfl ((c_law_wide e.qual hfq _ _)) ?_
   try simp only [go_sem, ↓reduceIte, Nat.reduceEqDiff, Nat.reduceLT, Nat.reduceSub, Nat.reduceAdd, Nat.reduceMul, Nat.add_assoc, Int.toNat_natCast, hnth]
   repeat (first | (refine And.intro ?_ ?_; · first | (simp; omega)) | refine peel ?_)
   refine hK _ _ _ ?_; clear hK K
   refine awp_reg zs [0, 3, 4, 5, 6, 7] fun K hK => ?_
   try simp only [go_sem, ↓reduceIte, Nat.reduceEqDiff, Nat.reduceLT, Nat.reduceSub, Nat.reduceAdd, Nat.reduceMul, Nat.add_assoc, Int.toNat_natCast, hnth]
   repeat (first | (refine And.intro ?_ ?_; · first | (simp; omega)) | refine peel ?_)
   refine callK_use Tryz.func33 rfl rfl rfl ((c_law_wide e.value hfv _ _)) ?_
   try simp only [go_sem, ↓reduceIte, Nat.reduceEqDiff, Nat.reduceLT, Nat.reduceSub, Nat.reduceAdd, Nat.reduceMul, Nat.add_assoc, Int.toNat_natCast, hnth]
   repeat (first | (refine And.intro ?_ ?_; · first | (simp; omega)) | refine peel ?_)
   refine hK _ _ _ ?_; clear hK K
   refine awp_reg zs [0, 3, 4, 5, 6, 7] fun K hK => ?_
   try simp only [go_sem, ↓reduceIte, Nat.reduceEqDiff, Nat.reduceLT, Nat.reduceSub, Nat.reduceAdd, Nat.reduceMul, Nat.add_assoc, hHn, hHw, qa, qb, qc, qd, qe, qf, qa0, qb0, qc0, qd0, qe0, qf0]
   repeat (first | (refine And.intro ?_ ?_; · first | exact ⟨rfl, by decide, by simp [AV.sz, AV.szs, AV.memOK]⟩ | (simp; omega) | exact ⟨by simp, .inr trivial, by simp; omega, by simp; omega⟩) | refine peel ?_)
   refine hK _ _ _ ?_; clear hK K
   refine awp_reg zs [0, 3, 4, 5, 6, 7, 8] fun K hK => ?_
   try simp only [go_sem, ↓reduceIte, Nat.reduceEqDiff, Nat.reduceLT, Nat.reduceSub, Nat.reduceAdd, Nat.reduceMul, Nat.add_assoc, Int.toNat_natCast, hnth]
   repeat (first | (refine And.intro ?_ ?_; · first | (simp; omega)) | refine peel ?_)
   refine hK _ _ _ ?_; clear hK K
   refine awp_reg zs [0, 3, 4, 6, 7, 8] fun K hK => ?_
   try simp only [go_sem, ↓reduceIte, Nat.reduceEqDiff, Nat.reduceLT, Nat.reduceSub, Nat.reduceAdd, Nat.reduceMul, Nat.add_assoc, Int.toNat_natCast, hnth, qa, qb, qc, qd, qe, qf, qa0, qb0, qc0, qd0, qe0, qf0, Option.getD_some, Option.getD_none, Int.toNat_zero, List.drop_zero, List.length_map]
   repeat (first | (refine And.intro ?_ ?_; · first | (intro m9 hm9; cases hm9) | (simp; omega)) | refine peel ?_)
   refine hK _ _ _ ?_; clear hK K
   refine awp_reg zs [0, 3, 4, 7, 8] fun K hK => ?_
   try simp only [go_sem, ↓reduceIte, Nat.reduceEqDiff, Nat.reduceLT, Nat.reduceSub, Nat.reduceAdd, Nat.reduceMul, Nat.add_assoc, Int.toNat_natCast, hnth, qa, qb, qc, qd, qe, qf, qa0, qb0, qc0, qd0, qe0, qf0, Option.getD_some, Option.getD_none, Int.toNat_zero, List.drop_zero, List.length_map]
   repeat (first | (refine And.intro ?_ ?_; · first | (intro m9 hm9; cases hm9) | (simp; omega)) | refine peel ?_)
   refine hK _ _ _ ?_; clear hK K
   refine awp_reg zs [0, 3, 4, 8] fun K hK => ?_
   try simp only [go_sem, ↓reduceIte, Nat.reduceEqDiff, Nat.reduceLT, Nat.reduceSub, Nat.reduceAdd, Nat.reduceMul, Nat.add_assoc, Int.toNat_natCast, hnth, qa, qb, qc, qd, qe, qf, qa0, qb0, qc0, qd0, qe0, qf0, Option.getD_some, Option.getD_none, Int.toNat_zero, List.drop_zero, List.length_map]
   repeat (first | (refine And.intro ?_ ?_; · first | (intro m9 hm9; cases hm9) | (simp; omega)) | refine peel ?_)
   refine hK _ _ _ ?_; clear hK K
   refine awp_drw1 rfl zs [0, 3, 4] [.m, .m, .q, .q, .q, .q, .q, .w [], .q, .q, .w []] (by kernel_rfl) (fun _ _ _ _ _ h => h) fun K hK => ?_
   try simp only [go_sem, ↓reduceIte, Nat.reduceEqDiff, Nat.reduceLT, Nat.reduceSub, Nat.reduceAdd, Nat.reduceMul, Nat.add_assoc, hHn, hHl, qa, qb, qc, qd, qe, qf, qa0, qb0, qc0, qd0, qe0, qf0]
   repeat (first | (refine And.intro ?_ ?_; · first | exact ⟨rfl, by decide, by simp [AV.sz, AV.szs, AV.memOK]⟩ | (simp; omega) | exact ⟨by simp, .inr trivial, by simp; omega, by simp; omega⟩) | refine peel ?_)
   refine hK _ _ _ ?_; clear hK K
   try simp only [go_sem, ↓reduceIte, Nat.reduceEqDiff, Nat.reduceLT, Nat.reduceSub, Nat.reduceAdd, Nat.reduceMul, Nat.add_assoc]
   refine hK3 _ _ _ ?_
   first | clear hK3 K3 | skip
   refine awp_reg1 zs [0, 3, 4] fun K hK => ?_
   try simp only [go_sem, ↓reduceIte, Nat.reduceEqDiff, Nat.reduceLT, Nat.reduceSub, Nat.reduceAdd, Nat.reduceMul, Nat.add_assoc]
   repeat refine peel ?_
   refine hK _ _ _ ?_; clear hK K
   try simp only [go_sem, ↓reduceIte, Nat.reduceEqDiff, Nat.reduceLT, Nat.reduceSub, Nat.reduceAdd, Nat.reduceMul, Nat.add_assoc]
   refine ⟨⟨i + 1, by omega, by rw [w1 (by omega)], by omega, ?_, ?_, ?_, ?_, ?_⟩, by rw [w1 (by omega)]; simp; omega⟩
   · rw [hl1, hw1]; simp [wx3]
   · rw [hl1, List.take_of_length_le (by simp), List.map_append]
     simp only [List.map_cons, List.map_nil, lx, lentAV, Lp.av, k1, k2', k3', Nat.sub_zero]
   · rw [if_neg (by omega), hw1, List.take_of_length_le (by simp)]
     simp only [wx3, k1, k2', k3']
   · intro j hj
     rcases Nat.lt_or_ge j i with hji | hji
     · exact (hbs j hji).mono fun k h1 h2 => by rw [Heap.put_ne _ _ (by omega), Heap.put_ne _ _ (by omega), Heap.put_ne _ _ (by omega), Heap.put_ne _ _ (by omega), Heap.put_ne _ _ (by omega), Heap.put_ne _ _ (by omega), Heap.put_ne _ _ (by omega), Heap.put_ne _ _ (by omega)]
     · obtain rfl : j = i := by omega
       rw [he]
       exact ⟨by rw [k1, Heap.put_ne _ _ (by omega), Heap.put_ne _ _ (by omega), Heap.put_ne _ _ (by omega), Heap.put_ne _ _ (by omega), Heap.put_ne _ _ (by omega), Heap.put_ne _ _ (by omega), Heap.put_ne _ _ (by omega), Heap.put_same], by rw [k2', Heap.put_ne _ _ (by omega), Heap.put_ne _ _ (by omega), Heap.put_ne _ _ (by omega), Heap.put_ne _ _ (by omega), Heap.put_ne _ _ (by omega), Heap.put_ne _ _ (by omega), Heap.put_same], by rw [k3', Heap.put_ne _ _ (by omega), Heap.put_ne _ _ (by omega), Heap.put_ne _ _ (by omega), Heap.put_ne _ _ (by omega), Heap.put_ne _ _ (by omega), Heap.put_same]⟩
   · intro k hk
     have g0 : k ≠ n := by omega
     have g1 : k ≠ n + 1 := by omega
     have g2 : k ≠ n + 2 := by omega
     have g3 : k ≠ n1 := by omega
     have g4 : k ≠ n1 + 1 := by omega
     have g5 : k ≠ n1 + 2 := by omega
     have g6 : k ≠ n1 + 3 := by omega
     simp only [g0, g1, g2, g3, g4, g5, g6, if_false]; exact hrest k hk
  ·skip
   have hge : i = l.length := by simp at hb; omega
   subst hge
   refine awp_exit ?_
   try simp only [go_sem, ↓reduceIte, Nat.reduceEqDiff, Nat.reduceLT, Nat.reduceSub, Nat.reduceAdd, Nat.reduceMul, Nat.add_assoc]
   refine hK1 _ _ _ ?_
   first | clear hK1 K1 | skip
   refine awp_reg zs [3] fun K hK => ?_
   try simp only [go_sem, ↓reduceIte, Nat.reduceEqDiff, Nat.reduceLT, Nat.reduceSub, Nat.reduceAdd, Nat.reduceMul, Nat.add_assoc, hHn, hHl]
   repeat (first | (refine And.intro ?_ ?_; · first | exact ⟨by simp, .inr trivial, by rw [lxs_len]; omega, by rw [lxs_len]; omega⟩ | exact ⟨rfl, by decide, by simp [AV.sz, AV.szs, AV.memOK]⟩ | (simp; omega) | exact ⟨by simp, .inr trivial, by simp; omega, by simp; omega⟩) | refine peel ?_)
   refine hK _ _ _ ?_; clear hK K
   refine awp_reg zs [2] fun K hK => ?_
   try simp only [go_sem, ↓reduceIte, Nat.reduceEqDiff, Nat.reduceLT, Nat.reduceSub, Nat.reduceAdd, Nat.reduceMul, Nat.add_assoc]
   repeat refine peel ?_
   refine hK _ _ _ ?_; clear hK K
   refine awp_ret ?_
   try simp only [go_sem, ↓reduceIte, Nat.reduceEqDiff, Nat.reduceLT, Nat.reduceSub, Nat.reduceAdd, Nat.reduceMul, Nat.add_assoc]
   refine ⟨by omega, ⟨?_, ?_, ?_, ?_⟩, ?_⟩
   · rw [Heap.put_same, lxs_len, wx_len]
   · rw [Heap.put_ne _ _ (by omega), Heap.put_same, List.take_of_length_le (by simp)]; rfl
   · rw [Heap.put_ne _ _ (by omega), Heap.put_ne _ _ (by omega)]; exact hHw
   · intro j hj
     exact (hbs j hj).mono fun k h1 h2 => by rw [Heap.put_ne _ _ (by omega), Heap.put_ne _ _ (by omega)]
   · intro k hk; have h0 : k ≠ n := by omega
     have h1 : k ≠ n + 1 := by omega
     simp [h0, h1, hrest k hk]
end Go.Proofs.YtijhkfhflpmajaaGreat


namespace Go.Proofs.YtijhkfhflpmajaaGreat
open Go Go.Sx Go.Rt Go.Proofs

theorem lxs_nth (n : Nat) (l : List Ent) : ∀ i, i ≤ l.length → ∀ x ∈ lxs n l i, ∃ j, j < i ∧ x = lx n j (l.getD j default)
  | 0, _, x, hx => by cases hx
  | i + 1, hi, x, hx => by
    rcases List.mem_append.1 hx with h | h
    · obtain ⟨j, hj, e⟩ := lxs_nth n l i (by omega) x h
      exact ⟨j, by omega, e⟩
    · exact ⟨i, by omega, by simpa using h⟩
theorem lxs_e (n : Nat) (l : List Ent) : ∀ i, i ≤ l.length → (lxs n l i).map (·.e) = l.take i
  | 0, _ => rfl
  | i + 1, hi => by
    rw [lxs, List.map_append, lxs_e n l i (by omega), List.take_add_one]
    simp [lx, List.getD, List.getElem?_eq_getElem (show i < l.length by omega)]
theorem lxs_all (n : Nat) (l : List Ent) : (lxs n l l.length).map (·.e) = l := by rw [lxs_e n l _ (Nat.le_refl _), List.take_length]
theorem wx_nth (n : Nat) (l : List Ent) : ∀ N i d, i < N → d < 3 → nth (wx n l N) (3 * i + d) = nth (wx3 n i (l.getD i default)) d
  | 0, i, d, h, _ => absurd h (by omega)
  | N + 1, i, d, h, hd => by
    have hl := wx_len n l N
    rw [wx]
    unfold nth
    rcases Nat.lt_or_ge i N with h9 | h9
    · have := wx_nth n l N i d h9 hd
      unfold nth at this
      rw [← this, List.getD, List.getElem?_append_left (by omega)]; rfl
    · obtain rfl : i = N := by omega
      rw [List.getD, List.getD, List.getElem?_append_right (by omega), hl]
      congr 2; omega
/-- where the list lies -/
def lp (n : Nat) (l : List Ent) : Lp := ⟨n + 1, l.length + 1, (lxs n l l.length).map lentAV ++ [mkE (-9)]⟩
theorem Laid.ok {H : Heap} {n m : Nat} {l : List Ent} (h : Laid H n l) (hm : n + 3 + 4 * l.length ≤ m) : LList H m (lp n l) (lxs n l l.length) := by
  refine ⟨by show n + 1 < m; omega, h.ls, by show _ ≤ (_ ++ _ : List AV).length; simp [lxs_len], ?_, ?_⟩
  · show List.take (lxs n l l.length).length ((lxs n l l.length).map lentAV ++ [mkE (-9)]) = _
    rw [List.take_append_of_le_length (by simp), List.take_of_length_le (by simp)]
  · intro x hx
    obtain ⟨j, hj, rfl⟩ := lxs_nth n l l.length (Nat.le_refl _) x hx
    obtain ⟨b1, b2, b3⟩ := h.bs j hj
    refine ⟨⟨⟨b1, by simp [lx], by simp [lx]⟩, by show n + 3 + 4 * j < m; omega⟩, ⟨⟨b2, by simp [lx], by simp [lx]⟩, by show n + 4 + 4 * j < m; omega⟩, ⟨⟨b3, by simp [lx], by simp [lx]⟩, by show n + 5 + 4 * j < m; omega⟩⟩
theorem l_law_kept {H : Heap} {k : Nat} {b : List UInt8} (hk : H k = some (.arr 2 1 ((b ++ marksE).map byteAV))) (hb : b.length ≤ 70000000000000) (n : Nat) : Ret Tryz.prog 53 [.osl k 2 0 (b.length + 5), bys b] H n (.bool true) H n := by
  have h := c_law_kept (b ++ marksE) b (by simp [marksE]; omega) (by omega) (fun _ => none) 0
  rw [keptB_true] at h
  refine Ret.lend trivial (.cons ?_ (.cons (.kl (kl_bys b 0)) .nil)) h
  exact .osl hk (Nat.zero_le _) (by simp [marksE]) (by rw [List.drop_zero, List.take_of_length_le (by simp [marksE])]; exact frzL_kl _ (kls0_bytes _ 0))

/-- whatever stands there, it has its shape -/
structure Shp (H : Heap) (n : Nat) (l : List Ent) : Prop where
  room : H n = some (.arr 0 2 [.agg [.osl (n + 1) (l.length + 1) 0 (l.length + 1), .osl (n + 2) l.length 0 (3 * l.length)]])
  ws : H (n + 2) = some (.arr l.length 1 (wx n l l.length))
  ls : ∃ els, H (n + 1) = some (.arr (l.length + 1) 7 els) ∧ els.length = l.length + 1 ∧ ∀ x ∈ els, x.sz = 7
  bs : ∀ t, t < 3 * l.length → ∃ k els, nth (wx n l l.length) t = .osl k 2 0 els.length ∧ n + 3 ≤ k ∧ H k = some (.arr 2 1 els) ∧ els.length ≤ 100000000000000 ∧ ∀ x ∈ els, x.sz = 1
theorem Laid.shp {H : Heap} {n : Nat} {l : List Ent} (h : Laid H n l) (hf : ∀ e ∈ l, e.row.length ≤ 70000000000000 ∧ e.qual.length ≤ 70000000000000 ∧ e.value.length ≤ 70000000000000) : Shp H n l := by
  refine ⟨h.room, h.ws, ⟨_, h.ls, by simp [lxs_len], ?_⟩, ?_⟩
  · intro x hx
    rcases List.mem_append.1 hx with hx | hx
    · obtain ⟨y, _, rfl⟩ := List.mem_map.1 hx; exact lentAV_sz y
    · rw [List.mem_singleton.1 hx]; rfl
  · intro t ht
    obtain ⟨i, d, hd, rfl⟩ : ∃ i d, d < 3 ∧ t = 3 * i + d := ⟨t / 3, t % 3, by omega, by omega⟩
    have hi : i < l.length := by omega
    obtain ⟨b1, b2, b3⟩ := h.bs i hi
    have hfi := hf (l.getD i default) (by simp [List.getD, List.getElem?_eq_getElem hi])
    rw [wx_nth n l _ i d hi hd]
    have hsz : ∀ (b : List UInt8), ∀ x ∈ (b ++ marksE).map byteAV, x.sz = 1 := fun b x hx => by obtain ⟨y, _, rfl⟩ := List.mem_map.1 hx; rfl
    rcases d with _ | _ | _ | d
    · exact ⟨_, _, by simp [wx3, nth, marksE], by omega, b1, by simp only [List.length_map, List.length_append, marksE, List.length_cons, List.length_nil]; omega, hsz _⟩
    · exact ⟨_, _, by simp [wx3, nth, marksE], by omega, b2, by simp only [List.length_map, List.length_append, marksE, List.length_cons, List.length_nil]; omega, hsz _⟩
    · exact ⟨_, _, by simp [wx3, nth, marksE], by omega, b3, by simp only [List.length_map, List.length_append, marksE, List.length_cons, List.length_nil]; omega, hsz _⟩
    · omega
theorem Shp.put {H : Heap} {n k : Nat} {l : List Ent} (h : Shp H n l) {els els' : List AV} (hk : H k = some (.arr 2 1 els)) (hn : n + 3 ≤ k) (hl : els'.length = els.length) (hs : ∀ x ∈ els', x.sz = 1) : Shp (H.put k (some (.arr 2 1 els'))) n l := by
  obtain ⟨h1, h2, ⟨e3, h3, h4, h5⟩, h6⟩ := h
  refine ⟨(Heap.put_ne _ _ (by omega)).trans h1, (Heap.put_ne _ _ (by omega)).trans h2, ⟨e3, (Heap.put_ne _ _ (by omega)).trans h3, h4, h5⟩, fun t ht => ?_⟩
  obtain ⟨k', es, g1, g2, g3, g5, g4⟩ := h6 t ht
  by_cases hkk : k' = k
  · subst hkk
    rw [g3] at hk
    injection hk with hk
    injection hk with _ _ hk
    subst hk
    exact ⟨k', els', by rw [g1, hl], g2, Heap.put_same _ _ _, by omega, hs⟩
  · exact ⟨k', es, g1, g2, (Heap.put_ne _ _ hkk).trans g3, g5, g4⟩
theorem Shp.put1 {H : Heap} {n : Nat} {l : List Ent} (h : Shp H n l) {els' : List AV} (hl : els'.length = l.length + 1) (hs : ∀ x ∈ els', x.sz = 7) : Shp (H.put (n + 1) (some (.arr (l.length + 1) 7 els'))) n l := by
  obtain ⟨h1, h2, _, h6⟩ := h
  refine ⟨(Heap.put_ne _ _ (by omega)).trans h1, (Heap.put_ne _ _ (by omega)).trans h2, ⟨els', Heap.put_same _ _ _, hl, hs⟩, fun t ht => ?_⟩
  obtain ⟨k', es, g1, g2, g3, g5, g4⟩ := h6 t ht
  exact ⟨k', es, g1, g2, (Heap.put_ne _ _ (by omega)).trans g3, g5, g4⟩
theorem sz_set {els : List AV} {e i : Nat} {v : AV} (h : ∀ x ∈ els, x.sz = e) (hv : v.sz = e) : ∀ x ∈ els.set i v, x.sz = e := fun x hx => by
  rcases List.mem_or_eq_of_mem_set hx with h9 | h9
  · exact h x h9
  · rw [h9]; exact hv
theorem nth_mem {els : List AV} {i : Nat} (h : i < els.length) : nth els i ∈ els := by
  simp [nth, List.getD, List.getElem?_eq_getElem h]

def olen : AV → Nat
  | .osl _ _ _ len => len
  | _ => 0
set_option maxRecDepth 100000 in
set_option maxHeartbeats 4000000 in
theorem c_law_stands (l : List Ent) (hl : l.length ≤ 100000000) (hf : ∀ e ∈ l, e.row.length ≤ 70000000000000 ∧ e.qual.length ≤ 70000000000000 ∧ e.value.length ≤ 70000000000000) (H : Heap) (n n0 : Nat) (hn0 : n0 + 3 + 4 * l.length ≤ n) (hL : Laid H n0 l) :
    ACalls Tryz.prog 59 [.loc n0 0 0 0 [], entsAV l] H n fun res H' n' => res = .val (.bool true) ∧ n' = n ∧ ∀ k, k < n0 → H' k = H k := by
  have hroom := hL.room
  have hls := hL.ls
  have hws := hL.ws
  have hwr : IntKind.i64.wrap ((l.length : Int) + 1) = ((l.length + 1 : Nat) : Int) := w1 (by omega)
  have hnl : nth ((lxs n0 l l.length).map lentAV ++ [mkE (-9)]) l.length = mkE (-9) := by
    unfold nth; rw [List.getD, List.getElem?_append_right (by simp [lxs_len])]; simp [lxs_len]
  simp only [mkE] at hnl
  have hsame : ∀ m, n0 + 3 + 4 * l.length ≤ m → Ret Tryz.prog 17 [(lp n0 l).av l.length, entsAV l] H m (.bool true) H m := fun m hm => by
    have h := c_ref3_SameAll ((lxs n0 l l.length).map (·.e)) l (by rw [lxs_all]; omega) (fun _ => none) 0
    rw [show decide ((lxs n0 l l.length).map (·.e) = l) = true by rw [lxs_all]; simp] at h
    have hfz := (hL.ok hm).frz
    rw [lxs_len] at hfz
    exact Ret.lend trivial (.cons hfz (.cons (.kl (kls_ents l 0)) .nil)) h
  simp only [lp, Lp.av] at hsame
  refine acalls_of_awp Tryz.func59 rfl Tryz.ntmps59 (congrArg Array.toList Tryz.results59) (by simp) ?_
  simp only [go_sem]
  refine awp_reg zs [0, 1] fun K hK => ?_
  try simp only [go_sem, ↓reduceIte, Nat.reduceEqDiff, Nat.reduceLT, Nat.reduceSub, Nat.reduceAdd, Nat.reduceMul]
  repeat refine peel ?_
  refine hK _ _ _ ?_; clear hK K
  refine awp_reg zs [0, 1, 5] fun K hK => ?_
  try simp only [go_sem, ↓reduceIte, Nat.reduceEqDiff, Nat.reduceLT, Nat.reduceSub, Nat.reduceAdd, Nat.reduceMul]
  repeat refine peel ?_
  refine hK _ _ _ ?_; clear hK K
  refine awp_seq_k fun K1 hK1 => ?_
  refine awp_reg zs [0, 1, 5, 41] fun K hK => ?_
  try simp only [go_sem, ↓reduceIte, Nat.reduceEqDiff, Nat.reduceLT, Nat.reduceSub, Nat.reduceAdd, Nat.reduceMul, List.length_map, Option.getD_some, Option.getD_none, Int.toNat_natCast, Int.toNat_zero, List.drop_zero, Nat.sub_zero, hroom, hls, hwr, hnl, bne_self_eq_false, mkE, show (false == false) = true from rfl, show (true == true) = true from rfl, show (true == false) = false from rfl, forall_const, true_implies, List.getD_cons_zero, List.getD_cons_succ]
  repeat (first | (refine And.intro ?_ ?_; · first | (simp [lxs_len]; done) | exact ⟨by omega, by omega, by omega, fun m hm => by cases hm⟩) | refine peel ?_)
  refine callG_use Tryz.func17 rfl rfl rfl (fun _ => (hsame _ hn0)) ?_
  try simp only [go_sem, ↓reduceIte, Nat.reduceEqDiff, Nat.reduceLT, Nat.reduceSub, Nat.reduceAdd, Nat.reduceMul, List.length_map, Option.getD_some, Option.getD_none, Int.toNat_natCast, Int.toNat_zero, List.drop_zero, Nat.sub_zero, hroom, hls, hwr, hnl, bne_self_eq_false, mkE, show (false == false) = true from rfl, show (true == true) = true from rfl, show (true == false) = false from rfl, forall_const, true_implies, List.getD_cons_zero, List.getD_cons_succ]
  repeat (first | (refine And.intro ?_ ?_; · first | (simp [lxs_len]; done) | exact ⟨by omega, by omega, by omega, fun m hm => by cases hm⟩) | refine peel ?_)
  refine hK _ _ _ ?_; clear hK K
  refine awp_cnd (fun hb => ?_) (fun hb => ?_)
  ·skip
   exact absurd hb (by simp)
   --dead
  ·skip
   refine awp_skip ?_
   try simp only [go_sem, ↓reduceIte, Nat.reduceEqDiff, Nat.reduceLT, Nat.reduceSub, Nat.reduceAdd, Nat.reduceMul]
   refine hK1 _ _ _ ?_
   first | clear hK1 K1 | skip
   refine awp_seq_k fun K2 hK2 => ?_
   refine awp_reg zs [0, 1, 5, 6] fun K hK => ?_
   try simp only [go_sem, ↓reduceIte, Nat.reduceEqDiff, Nat.reduceLT, Nat.reduceSub, Nat.reduceAdd, Nat.reduceMul]
   repeat refine peel ?_
   refine hK _ _ _ ?_; clear hK K
   refine awp_block ?_
   -- loop 0: head [0, 1, 5, 6]
   refine awp_loop (fun T' H' n' => ∃ (i : Nat), i ≤ l.length ∧ T' = tl [(0, .loc n0 0 0 0 []), (1, .sl 7 (l.map entAV)), (5, .int .i64 l.length), (6, .int .i64 i)] ∧ H = H' ∧ n = n') (fun T' _ _ => l.length - iv (T' 6)) ?_ ?_
   ·skip
    exact ⟨0, Nat.zero_le _, rfl, rfl, rfl⟩
   intro T1 H1 n1
   rintro ⟨i, hi, rfl, rfl, rfl⟩
   refine awp_seq_k fun K3 hK3 => ?_
   refine awp_reg zs [0, 1, 5, 6, 44] fun K hK => ?_
   try simp only [go_sem, ↓reduceIte, Nat.reduceEqDiff, Nat.reduceLT, Nat.reduceSub, Nat.reduceAdd, Nat.reduceMul]
   repeat refine peel ?_
   refine hK _ _ _ ?_; clear hK K
   refine awp_cnd (fun hb => ?_) (fun hb => ?_)
   ·skip
    have hlt : i < l.length := by simpa using hb
    have hnth : nth (l.map entAV) i = entAV (l.getD i default) := nth_map entAV l i hlt
    have hwi : IntKind.i64.wrap (3 * (i : Int)) = ((3 * i : Nat) : Int) := by rw [w64 (by omega) (by omega)]; omega
    have hwi1 : IntKind.i64.wrap (((3 * i : Nat) : Int) + 1) = ((3 * i + 1 : Nat) : Int) := w1 (by omega)
    have hwi2 : IntKind.i64.wrap (((3 * i : Nat) : Int) + 2) = ((3 * i + 2 : Nat) : Int) := by rw [w64 (by omega) (by omega)]; omega
    have hw0 : nth (wx n0 l l.length) (3 * i) = _ := wx_nth n0 l l.length i 0 hlt (by decide)
    have hw1' := wx_nth n0 l l.length i 1 hlt (by decide)
    have hw2' := wx_nth n0 l l.length i 2 hlt (by decide)
    have hwl := wx_len n0 l l.length
    have hbi := hL.bs i hlt
    have hfi := hf (l.getD i default) (by simp [List.getD, List.getElem?_eq_getElem hlt])
    generalize l.getD i default = e at *
    simp only [wx3, nth, List.getD_cons_zero, List.getD_cons_succ] at hw0 hw1' hw2'
    change nth (wx n0 l l.length) (3 * i) = _ at hw0
    change nth (wx n0 l l.length) (3 * i + 1) = _ at hw1'
    change nth (wx n0 l l.length) (3 * i + 2) = _ at hw2'
    refine awp_skip ?_
    try simp only [go_sem, ↓reduceIte, Nat.reduceEqDiff, Nat.reduceLT, Nat.reduceSub, Nat.reduceAdd, Nat.reduceMul]
    refine hK3 _ _ _ ?_
    first | clear hK3 K3 | skip
    refine awp_seq_k fun K4 hK4 => ?_
    refine awp_block ?_
    refine awp_drw rfl zs [0, 1, 5, 6, 97] [.m, .q, .q, .q, .m, .q, .q, .q, .m, .m, .q, .q, .q, .c, .q, .m, .m, .q, .q, .q, .m, .q, .q, .q, .q, .m, .m, .q, .q, .q, .c, .q, .q, .m, .m, .q, .q, .q, .m, .q, .q, .q, .q, .m, .m, .q, .q, .q, .c, .q, .q] (by kernel_rfl) (fun _ _ _ _ _ h => h) fun K hK => ?_
    try simp only [go_sem, ↓reduceIte, Nat.reduceEqDiff, Nat.reduceLT, Nat.reduceSub, Nat.reduceAdd, Nat.reduceMul, Int.toNat_natCast, hnth, hroom, hws, hwi, hwi1, hwi2, hw0, hw1', hw2', show (false == false) = true from rfl, show (true == true) = true from rfl, show (true == false) = false from rfl, show (!true) = false from rfl, Bool.false_or, Bool.or_true, forall_const, true_implies, List.length_map, AV.isAgg, AV.sz]
    repeat (first | (refine And.intro ?_ ?_; · first | (intro _; first | omega | (exact ⟨by omega, by simp; omega⟩)) | (simp; omega) | (exact ⟨by omega, by simp; omega⟩)) | refine peel ?_)
    refine callQG_use Tryz.func53 rfl rfl rfl (fun _ n => (l_law_kept hbi.r hfi.1 _)) ?_
    try simp only [go_sem, ↓reduceIte, Nat.reduceEqDiff, Nat.reduceLT, Nat.reduceSub, Nat.reduceAdd, Nat.reduceMul, Int.toNat_natCast, hnth, hroom, hws, hwi, hwi1, hwi2, hw0, hw1', hw2', show (false == false) = true from rfl, show (true == true) = true from rfl, show (true == false) = false from rfl, show (!true) = false from rfl, Bool.false_or, Bool.or_true, forall_const, true_implies, List.length_map, AV.isAgg, AV.sz]
    repeat (first | (refine And.intro ?_ ?_; · first | (intro _; first | omega | (exact ⟨by omega, by simp; omega⟩)) | (simp; omega) | (exact ⟨by omega, by simp; omega⟩)) | refine peel ?_)
    refine callQG_use Tryz.func53 rfl rfl rfl (fun _ n => (l_law_kept hbi.q hfi.2.1 _)) ?_
    try simp only [go_sem, ↓reduceIte, Nat.reduceEqDiff, Nat.reduceLT, Nat.reduceSub, Nat.reduceAdd, Nat.reduceMul, Int.toNat_natCast, hnth, hroom, hws, hwi, hwi1, hwi2, hw0, hw1', hw2', show (false == false) = true from rfl, show (true == true) = true from rfl, show (true == false) = false from rfl, show (!true) = false from rfl, Bool.false_or, Bool.or_true, forall_const, true_implies, List.length_map, AV.isAgg, AV.sz]
    repeat (first | (refine And.intro ?_ ?_; · first | (intro _; first | omega | (exact ⟨by omega, by simp; omega⟩)) | (simp; omega) | (exact ⟨by omega, by simp; omega⟩)) | refine peel ?_)
    refine callQG_use Tryz.func53 rfl rfl rfl (fun _ n => (l_law_kept hbi.v hfi.2.2 _)) ?_
    try simp only [go_sem, ↓reduceIte, Nat.reduceEqDiff, Nat.reduceLT, Nat.reduceSub, Nat.reduceAdd, Nat.reduceMul, Int.toNat_natCast, hnth, hroom, hws, hwi, hwi1, hwi2, hw0, hw1', hw2', show (false == false) = true from rfl, show (true == true) = true from rfl, show (true == false) = false from rfl, show (!true) = false from rfl, Bool.false_or, Bool.or_true, forall_const, true_implies, List.length_map, AV.isAgg, AV.sz]
    repeat (first | (refine And.intro ?_ ?_; · first | (intro _; first | omega | (exact ⟨by omega, by simp; omega⟩)) | (simp; omega) | (exact ⟨by omega, by simp; omega⟩)) | refine peel ?_)
    refine hK _ _ _ ?_; clear hK K
    refine awp_cnd (fun hb => ?_) (fun hb => ?_)
    ·skip
     exact absurd hb (by simp)
     --dead
    ·skip
     refine awp_skip ?_
     try simp only [go_sem, ↓reduceIte, Nat.reduceEqDiff, Nat.reduceLT, Nat.reduceSub, Nat.reduceAdd, Nat.reduceMul]
     refine hK4 _ _ _ ?_
     first | clear hK4 K4 | skip
     refine awp_reg1 zs [0, 1, 5, 6] fun K hK => ?_
     try simp only [go_sem, ↓reduceIte, Nat.reduceEqDiff, Nat.reduceLT, Nat.reduceSub, Nat.reduceAdd, Nat.reduceMul]
     repeat refine peel ?_
     refine hK _ _ _ ?_; clear hK K
     try simp only [go_sem, ↓reduceIte, Nat.reduceEqDiff, Nat.reduceLT, Nat.reduceSub, Nat.reduceAdd, Nat.reduceMul]
     exact ⟨⟨i + 1, by omega, by rw [w1 (by omega)]⟩, by rw [w1 (by omega)]; simp; omega⟩
   ·skip
    skip
    refine awp_exit ?_
    try simp only [go_sem, ↓reduceIte, Nat.reduceEqDiff, Nat.reduceLT, Nat.reduceSub, Nat.reduceAdd, Nat.reduceMul]
    refine hK2 _ _ _ ?_
    first | clear hK2 K2 | skip
    refine awp_seq_k fun K5 hK5 => ?_
    refine awp_reg zs [0, 5, 7] fun K hK => ?_
    try simp only [go_sem, ↓reduceIte, Nat.reduceEqDiff, Nat.reduceLT, Nat.reduceSub, Nat.reduceAdd, Nat.reduceMul]
    repeat refine peel ?_
    refine hK _ _ _ ?_; clear hK K
    refine awp_block ?_
    -- loop 1: head [0, 5, 7]
    refine awp_loop (fun T' H' n' => ∃ (t : Nat), t ≤ 3 * l.length ∧ T' = tl [(0, .loc n0 0 0 0 []), (5, .int .i64 l.length), (7, .int .i64 t)] ∧ n = n' ∧ Shp H' n0 l ∧ ∀ k, k < n0 → H' k = H k) (fun T' _ _ => 3 * l.length - iv (T' 7)) ?_ ?_
    ·skip
     exact ⟨0, Nat.zero_le _, rfl, rfl, hL.shp hf, fun k hk => rfl⟩
    intro T1 H1 n1
    rintro ⟨t, ht, rfl, rfl, hS, hrest⟩
    have hroom1 := hS.room
    refine awp_seq_k fun K6 hK6 => ?_
    refine awp_reg zs [0, 5, 7, 104] fun K hK => ?_
    try simp only [go_sem, ↓reduceIte, Nat.reduceEqDiff, Nat.reduceLT, Nat.reduceSub, Nat.reduceAdd, Nat.reduceMul, hroom1]
    repeat refine peel ?_
    refine hK _ _ _ ?_; clear hK K
    refine awp_cnd (fun hb => ?_) (fun hb => ?_)
    ·skip
     have hlt : t < 3 * l.length := by simp at hb; omega
     refine awp_skip ?_
     try simp only [go_sem, ↓reduceIte, Nat.reduceEqDiff, Nat.reduceLT, Nat.reduceSub, Nat.reduceAdd, Nat.reduceMul]
     refine hK6 _ _ _ ?_
     first | clear hK6 K6 | skip
     refine awp_seq_k fun K7 hK7 => ?_
     refine awp_block ?_
     refine awp_reg zs [0, 5, 7, 8] fun K hK => ?_
     try simp only [go_sem, ↓reduceIte, Nat.reduceEqDiff, Nat.reduceLT, Nat.reduceSub, Nat.reduceAdd, Nat.reduceMul]
     repeat refine peel ?_
     refine hK _ _ _ ?_; clear hK K
     refine awp_block ?_
     -- loop 2: head [0, 5, 7, 8]
     refine awp_loop (fun T' H' n' => ∃ (j : Nat) (k : Nat) (els : List AV), j ≤ els.length ∧ nth (wx n0 l l.length) t = .osl k 2 0 els.length ∧ n0 + 3 ≤ k ∧ H' k = some (.arr 2 1 els) ∧ els.length ≤ 100000000000000 ∧ (∀ x ∈ els, x.sz = 1) ∧ T' = tl [(0, .loc n0 0 0 0 []), (5, .int .i64 l.length), (7, .int .i64 t), (8, .int .i64 j)] ∧ n = n' ∧ Shp H' n0 l ∧ ∀ k, k < n0 → H' k = H k) (fun T' _ _ => olen (nth (wx n0 l l.length) t) - iv (T' 8)) ?_ ?_
     ·skip
      obtain ⟨k, els, g1, g2, g3, g5, g4⟩ := hS.bs t hlt
      exact ⟨0, k, els, Nat.zero_le _, g1, g2, g3, g5, g4, rfl, rfl, hS, hrest⟩
     intro T1 H1 n1
     rintro ⟨j, k, els, hj, hnt, hk3, hHk, hle, hsz, rfl, rfl, hS, hrest⟩
     have hroom2 := hS.room
     have hws2 := hS.ws
     have hwl := wx_len n0 l l.length
     refine awp_seq_k fun K8 hK8 => ?_
     refine awp_reg zs [0, 5, 7, 8, 116] fun K hK => ?_
     try simp only [go_sem, ↓reduceIte, Nat.reduceEqDiff, Nat.reduceLT, Nat.reduceSub, Nat.reduceAdd, Nat.reduceMul, hroom2, hws2, Int.toNat_natCast, hnt, AV.isAgg, AV.sz]
     repeat (first | (refine And.intro ?_ ?_; · first | (simp; omega) | (exact ⟨by omega, by simp; omega⟩)) | refine peel ?_)
     refine hK _ _ _ ?_; clear hK K
     refine awp_cnd (fun hb => ?_) (fun hb => ?_)
     ·skip
      have hltj : j < els.length := by simpa using hb
      refine awp_skip ?_
      try simp only [go_sem, ↓reduceIte, Nat.reduceEqDiff, Nat.reduceLT, Nat.reduceSub, Nat.reduceAdd, Nat.reduceMul]
      refine hK8 _ _ _ ?_
      first | clear hK8 K8 | skip
      refine awp_seq_k fun K9 hK9 => ?_
      refine awp_block ?_
      refine awp_reg1 zs [0, 5, 7, 8] fun K hK => ?_
      try simp only [go_sem, ↓reduceIte, Nat.reduceEqDiff, Nat.reduceLT, Nat.reduceSub, Nat.reduceAdd, Nat.reduceMul, hroom2, hws2, Int.toNat_natCast, hnt, hHk, AV.isAgg, AV.sz]
      repeat (first | (refine And.intro ?_ ?_; · first | exact ⟨hltj, hsz _ (nth_mem hltj)⟩ | (simp; omega) | (exact ⟨by omega, by simp; omega⟩)) | refine peel ?_)
      refine hK _ _ _ ?_; clear hK K
      try simp only [go_sem, ↓reduceIte, Nat.reduceEqDiff, Nat.reduceLT, Nat.reduceSub, Nat.reduceAdd, Nat.reduceMul]
      refine hK9 _ _ _ ?_
      first | clear hK9 K9 | skip
      refine awp_reg1 zs [0, 5, 7, 8] fun K hK => ?_
      try simp only [go_sem, ↓reduceIte, Nat.reduceEqDiff, Nat.reduceLT, Nat.reduceSub, Nat.reduceAdd, Nat.reduceMul]
      repeat refine peel ?_
      refine hK _ _ _ ?_; clear hK K
      try simp only [go_sem, ↓reduceIte, Nat.reduceEqDiff, Nat.reduceLT, Nat.reduceSub, Nat.reduceAdd, Nat.reduceMul]
      refine ⟨⟨j + 1, k, els.set j (.int .u8 66), by simp; omega, by simpa using hnt, hk3, by simp, by simpa using hle, sz_set hsz rfl, by rw [w1 (by omega)], hS.put hHk hk3 (by simp) (sz_set hsz rfl), ?_⟩, by rw [w1 (by omega)]; simp [hnt, olen]; omega⟩
      intro k' hk'; have h0 : k' ≠ k := by omega
      simp only [h0, if_false]; exact hrest k' hk'
     ·skip
      have hge2 : j = els.length := by simp at hb; omega
      refine awp_exit ?_
      try simp only [go_sem, ↓reduceIte, Nat.reduceEqDiff, Nat.reduceLT, Nat.reduceSub, Nat.reduceAdd, Nat.reduceMul]
      refine hK7 _ _ _ ?_
      first | clear hK7 K7 | skip
      refine awp_reg1 zs [0, 5, 7] fun K hK => ?_
      try simp only [go_sem, ↓reduceIte, Nat.reduceEqDiff, Nat.reduceLT, Nat.reduceSub, Nat.reduceAdd, Nat.reduceMul]
      repeat refine peel ?_
      refine hK _ _ _ ?_; clear hK K
      try simp only [go_sem, ↓reduceIte, Nat.reduceEqDiff, Nat.reduceLT, Nat.reduceSub, Nat.reduceAdd, Nat.reduceMul]
      exact ⟨⟨t + 1, by omega, by rw [w1 (by omega)], hS, hrest⟩, by rw [w1 (by omega)]; simp; omega⟩
    ·skip
     skip
     refine awp_exit ?_
     try simp only [go_sem, ↓reduceIte, Nat.reduceEqDiff, Nat.reduceLT, Nat.reduceSub, Nat.reduceAdd, Nat.reduceMul]
     refine hK5 _ _ _ ?_
     first | clear hK5 K5 | skip
     refine awp_seq_k fun K10 hK10 => ?_
     refine awp_reg zs [0, 5, 9] fun K hK => ?_
     try simp only [go_sem, ↓reduceIte, Nat.reduceEqDiff, Nat.reduceLT, Nat.reduceSub, Nat.reduceAdd, Nat.reduceMul]
     repeat refine peel ?_
     refine hK _ _ _ ?_; clear hK K
     refine awp_block ?_
     -- loop 3: head [0, 5, 9]
     refine awp_loop (fun T' H' n' => ∃ (i : Nat), i ≤ l.length ∧ T' = tl [(0, .loc n0 0 0 0 []), (5, .int .i64 l.length), (9, .int .i64 i)] ∧ n = n' ∧ Shp H' n0 l ∧ ∀ k, k < n0 → H' k = H k) (fun T' _ _ => l.length - iv (T' 9)) ?_ ?_
     ·skip
      exact ⟨0, Nat.zero_le _, rfl, rfl, hS, hrest⟩
     intro T1 H1 n1
     rintro ⟨i, hi, rfl, rfl, hS, hrest⟩
     have hroom3 := hS.room
     obtain ⟨els3, hls3, hel3, hsz3⟩ := hS.ls
     refine awp_seq_k fun K11 hK11 => ?_
     refine awp_reg zs [0, 5, 9, 130] fun K hK => ?_
     try simp only [go_sem, ↓reduceIte, Nat.reduceEqDiff, Nat.reduceLT, Nat.reduceSub, Nat.reduceAdd, Nat.reduceMul]
     repeat refine peel ?_
     refine hK _ _ _ ?_; clear hK K
     refine awp_cnd (fun hb => ?_) (fun hb => ?_)
     ·skip
      have hlt3 : i < l.length := by simpa using hb
      refine awp_skip ?_
      try simp only [go_sem, ↓reduceIte, Nat.reduceEqDiff, Nat.reduceLT, Nat.reduceSub, Nat.reduceAdd, Nat.reduceMul]
      refine hK11 _ _ _ ?_
      first | clear hK11 K11 | skip
      refine awp_seq_k fun K12 hK12 => ?_
      refine awp_block ?_
      refine awp_reg1 zs [0, 5, 9] fun K hK => ?_
      try simp only [go_sem, ↓reduceIte, Nat.reduceEqDiff, Nat.reduceLT, Nat.reduceSub, Nat.reduceAdd, Nat.reduceMul, hroom3, hls3, Int.toNat_natCast, AV.isAgg, AV.sz]
      repeat (first | (refine And.intro ?_ ?_; · first | exact ⟨by omega, hsz3 _ (nth_mem (by omega))⟩ | exact ⟨by omega, (hsz3 _ (nth_mem (by omega))).trans rfl⟩ | (simp; omega)) | refine peel ?_)
      refine hK _ _ _ ?_; clear hK K
      try simp only [go_sem, ↓reduceIte, Nat.reduceEqDiff, Nat.reduceLT, Nat.reduceSub, Nat.reduceAdd, Nat.reduceMul]
      refine hK12 _ _ _ ?_
      first | clear hK12 K12 | skip
      refine awp_reg1 zs [0, 5, 9] fun K hK => ?_
      try simp only [go_sem, ↓reduceIte, Nat.reduceEqDiff, Nat.reduceLT, Nat.reduceSub, Nat.reduceAdd, Nat.reduceMul]
      repeat refine peel ?_
      refine hK _ _ _ ?_; clear hK K
      try simp only [go_sem, ↓reduceIte, Nat.reduceEqDiff, Nat.reduceLT, Nat.reduceSub, Nat.reduceAdd, Nat.reduceMul]
      refine ⟨⟨i + 1, by omega, by rw [w1 (by omega)], hS.put1 (by simp; omega) (sz_set hsz3 rfl), ?_⟩, by rw [w1 (by omega)]; simp; omega⟩
      intro k' hk'; have h0 : k' ≠ n0 + 1 := by omega
      simp only [h0, if_false]; exact hrest k' hk'
     ·skip
      refine awp_exit ?_
      try simp only [go_sem, ↓reduceIte, Nat.reduceEqDiff, Nat.reduceLT, Nat.reduceSub, Nat.reduceAdd, Nat.reduceMul]
      refine hK10 _ _ _ ?_
      first | clear hK10 K10 | skip
      refine awp_reg zs [4] fun K hK => ?_
      try simp only [go_sem, ↓reduceIte, Nat.reduceEqDiff, Nat.reduceLT, Nat.reduceSub, Nat.reduceAdd, Nat.reduceMul]
      repeat refine peel ?_
      refine hK _ _ _ ?_; clear hK K
      refine awp_ret ?_
      try simp only [go_sem, ↓reduceIte, Nat.reduceEqDiff, Nat.reduceLT, Nat.reduceSub, Nat.reduceAdd, Nat.reduceMul]
      exact hrest
end Go.Proofs.YtijhkfhflpmajaaGreat


namespace Go.Proofs.YtijhkfhflpmajaaGreat
open Go Go.Sx Go.Rt Go.Proofs

theorem badsC_rChk : ∀ (l : List Ent), badsC l = rChk (-1) l
  | [] => rfl
  | e :: l => by
    rw [badsC, rChk, badsC_rChk l]
    simp
theorem sort_ref (l : List Ent) : sortE l = rSortE l := by
  unfold sortE rSortE rChecked
  rw [badsC_rChk]
  by_cases h : rChk (-1) l = 0
  · simp only [h, ne_eq, not_true_eq_false, if_false]
    rw [sorted_rOrd]
    split <;> simp
  · simp only [ne_eq, h, not_false_eq_true, if_true]
theorem rOrd_len (l : List Ent) : (rOrd l).length ≤ l.length := by unfold rOrd; simpa using (rOrd_ok2 l []).1
theorem rVisible_len (s : List Fml) (clock : Int) (m : List Ent) : (rVisible s clock m).length ≤ m.length := by unfold rVisible; simpa using (rVis_sub s clock m m []).1
theorem rRead_len (t n : Int) (v : List Ent) : (rRead t n v).length ≤ v.length := by
  have key : ∀ (l r : List Ent), (l.foldl (rReadS t n) r).length ≤ r.length + l.length := by
    intro l
    induction l with
    | nil => intro r; simp
    | cons a l ih =>
      intro r
      have h : (rReadS t n r a).length ≤ r.length + 1 := by unfold rReadS; split <;> simp
      have := ih (rReadS t n r a)
      rw [List.foldl_cons, List.length_cons]; omega
  unfold rRead; simpa using key v []
theorem rSquash_len (s : List Fml) (clock : Int) (mj : Bool) (low : Int) (m : List Ent) : (rSquash s clock mj low m).length ≤ m.length := by
  have key : ∀ (l r : List Ent), (l.foldl (rSqS s clock mj low m) r).length ≤ r.length + l.length := by
    intro l
    induction l with
    | nil => intro r; simp
    | cons a l ih =>
      intro r
      have h : (rSqS s clock mj low m r a).length ≤ r.length + 1 := by unfold rSqS; split <;> simp
      have := ih (rSqS s clock mj low m r a)
      rw [List.foldl_cons, List.length_cons]; omega
  unfold rSquash; simpa using key m []
theorem rSortE_len (l : List Ent) : (rSortE l).1.length ≤ l.length := by
  have := rOrd_len l
  unfold rSortE; split <;> simp; omega
theorem rVisE_len (s : List Fml) (clock : Int) (l : List Ent) : (rVisE s clock l).1.length ≤ l.length := by
  have h1 := rOrd_len l
  have h2 := rVisible_len s clock (rOrd l)
  unfold rVisE; split <;> simp; omega
theorem rReadE_len (s : List Fml) (clock t n : Int) (l : List Ent) : (rReadE s clock t n l).1.length ≤ l.length := by
  have h1 := rOrd_len l
  have h2 := rVisible_len s clock (rOrd l)
  have h3 := rRead_len t n (rVisible s clock (rOrd l))
  unfold rReadE; split <;> simp; omega
theorem rSquashE_len (s : List Fml) (clock : Int) (mj : Bool) (low : Int) (l : List Ent) : (rSquashE s clock mj low l).1.length ≤ l.length := by
  have h1 := rOrd_len l
  have h2 := rSquash_len s clock mj low (rOrd l)
  unfold rSquashE; split <;> simp; omega

structure AskE where
  kind : Int
  s : List Fml
  clock : Int
  t : Int
  n : Int
  major : Bool
  l : List Ent
  deriving Inhabited
def askAV (o : AskE) : AV := .agg [.int .i64 o.kind, schAV o.s, .int .i64 o.clock, .int .i64 o.t, .int .i64 o.n, .bool o.major, entsAV o.l]
def asksAV (l : List AskE) : AV := .sl 7 (l.map askAV)
attribute [go_sem] askAV asksAV
/-- an ask of a size that may be -/
structure AskE.ok (o : AskE) : Prop where
  len : o.l.length ≤ 1048576
  fits : ∀ e ∈ o.l, e.row.length ≤ 1048576 ∧ e.qual.length ≤ 1048576 ∧ e.value.length ≤ 1048576
theorem AskE.ok.f {o : AskE} (h : o.ok) : ∀ e ∈ o.l, e.fits := fun e he => by have := h.fits e he; exact ⟨by omega, by omega, by omega⟩

section
variable {H : Heap} {n0 m : Nat} {l : List Ent} (hL : Laid H n0 l) (hm : n0 + 3 + 4 * l.length ≤ m) (hl : l.length ≤ 1048576)
include hL hm hl
theorem a_retain_Sort : Ret Tryz.prog 14 [.osl (n0 + 1) (l.length + 1) 0 l.length] H m (.tup [entsAV (rSortE l).1, .int .i64 (rSortE l).2]) H m := by
  have h := l_retain_Sort (lp n0 l) (lxs n0 l l.length) (by rw [lxs_len]; omega) H m (hL.ok hm)
  rw [lxs_all, lxs_len, sort_ref] at h; exact h
theorem a_retain_Vis (s : List Fml) (clock : Int) : Ret Tryz.prog 18 [schAV s, .int .i64 clock, .osl (n0 + 1) (l.length + 1) 0 l.length] H m (.tup [entsAV (rVisE s clock l).1, .int .i64 (rVisE s clock l).2]) H m := by
  have h := l_retain_Vis (lp n0 l) s clock (lxs n0 l l.length) (by rw [lxs_len]; omega) H m (hL.ok hm)
  rw [lxs_all, lxs_len, vis_ref] at h; exact h
theorem a_retain_Read (s : List Fml) (clock t vn : Int) : Ret Tryz.prog 20 [schAV s, .int .i64 clock, .int .i64 t, .int .i64 vn, .osl (n0 + 1) (l.length + 1) 0 l.length] H m (.tup [entsAV (rReadE s clock t vn l).1, .int .i64 (rReadE s clock t vn l).2]) H m := by
  have h := l_retain_Read (lp n0 l) s clock t vn (lxs n0 l l.length) (by rw [lxs_len]; omega) H m (hL.ok hm)
  rw [lxs_all, lxs_len, read_ref] at h; exact h
theorem a_retain_Squash (s : List Fml) (clock low : Int) (mj : Bool) : Ret Tryz.prog 22 [schAV s, .int .i64 clock, .bool mj, .int .i64 low, .osl (n0 + 1) (l.length + 1) 0 l.length] H m (.tup [entsAV (rSquashE s clock mj low l).1, .int .i64 (rSquashE s clock mj low l).2]) H m := by
  have h := l_retain_Squash (lp n0 l) s clock low mj (lxs n0 l l.length) (by rw [lxs_len]; omega) H m (hL.ok hm)
  rw [lxs_all, lxs_len, squash_ref] at h; exact h
theorem a_retain_Top (s : List Fml) (clock : Int) : Ret Tryz.prog 24 [schAV s, .int .i64 clock, .osl (n0 + 1) (l.length + 1) 0 l.length] H m (.tup [.int .i64 (rTopE s clock l).1, .int .i64 (rTopE s clock l).2]) H m := by
  have h := l_retain_Top (lp n0 l) s clock (lxs n0 l l.length) (by rw [lxs_len]; omega) H m (hL.ok hm)
  rw [lxs_all, lxs_len, top_ref] at h; exact h
end
theorem a_ref3_SameAll (a : List Ent) (ha : a.length ≤ 1048576) (H : Heap) (n : Nat) : Ret Tryz.prog 17 [entsAV a, entsAV a] H n (.bool true) H n := by
  have h := c_ref3_SameAll a a (by omega) H n
  rw [show decide (a = a) = true by simp] at h
  exact h

set_option maxRecDepth 100000 in
set_option maxHeartbeats 4000000 in
theorem c_law_asked (o : AskE) (ho : o.ok) (H : Heap) (n : Nat) : Ret Tryz.prog 29 [askAV o] H n (.bool true) H n := by
  obtain ⟨kind, s, clock, t, vn, major, l⟩ := o
  have hl : l.length ≤ 1048576 := ho.len
  have hf : ∀ e ∈ l, e.fits := ho.f
  have hf2 : ∀ e ∈ l, e.row.length ≤ 1048576 ∧ e.qual.length ≤ 1048576 ∧ e.value.length ≤ 1048576 := ho.fits
  refine Ret.fin ?_
  refine acalls_of_awp Tryz.func29 rfl Tryz.ntmps29 (congrArg Array.toList Tryz.results29) (by simp) ?_
  simp only [go_sem]
  refine awp_reg zs [1] fun K hK => ?_
  try simp only [go_sem, ↓reduceIte, Nat.reduceEqDiff, Nat.reduceLT, Nat.reduceSub, Nat.reduceAdd, Nat.reduceMul]
  repeat refine peel ?_
  refine hK _ _ _ ?_; clear hK K
  refine awp_reg zs [1, 3] fun K hK => ?_
  try simp only [go_sem, ↓reduceIte, Nat.reduceEqDiff, Nat.reduceLT, Nat.reduceSub, Nat.reduceAdd, Nat.reduceMul]
  repeat refine peel ?_
  refine callK_useK (args' := [entsAV l]) Tryz.func12 rfl rfl rfl (c_law_laid l (by omega) (fun e he => ⟨hf e he, by have := hf2 e he; omega⟩) _ _) ?_ ?_
  rotate_left
  · intro p H' n' h; cases h.1
  rintro r H1 n1 ⟨hr1, hn1, hLd, hrest⟩
  cases hr1
  have hroom := hLd.room
  have hHn : H1 n = _ := (hrest n (by omega)).trans (Heap.put_same _ _ _)
  have hlow : ∀ k, k < n → H1 k = H k := fun k hk => (hrest k (by omega)).trans (Heap.put_ne _ _ (by omega))
  have hls : H1 (n + 2) = _ := hLd.ls
  clear hrest
  try simp only [go_sem, ↓reduceIte, Nat.reduceEqDiff, Nat.reduceLT, Nat.reduceSub, Nat.reduceAdd, Nat.reduceMul]
  repeat refine peel ?_
  refine hK _ _ _ ?_; clear hK K
  refine awp_drw rfl zs [1, 3, 4] [.m, .q, .q, .q, .q, .q, .q, .q, .q] (by kernel_rfl) (fun _ _ _ _ _ h => h) fun K hK => ?_
  try simp only [go_sem, ↓reduceIte, Nat.reduceEqDiff, Nat.reduceLT, Nat.reduceSub, Nat.reduceAdd, Nat.reduceMul, hHn, hroom, hls, List.length_map, Option.getD_some, Option.getD_none, Int.toNat_natCast, Int.toNat_zero, Nat.sub_zero]
  repeat (first | (refine And.intro ?_ ?_; · first | exact ⟨by omega, by omega, by omega, fun m hm => by cases hm⟩) | refine peel ?_)
  refine hK _ _ _ ?_; clear hK K
  refine awp_reg zs [1, 3, 4, 5, 6] fun K hK => ?_
  try simp only [go_sem, ↓reduceIte, Nat.reduceEqDiff, Nat.reduceLT, Nat.reduceSub, Nat.reduceAdd, Nat.reduceMul]
  repeat refine peel ?_
  refine hK _ _ _ ?_; clear hK K
  refine awp_reg zs [1, 3, 4, 5, 6, 7] fun K hK => ?_
  try simp only [go_sem, ↓reduceIte, Nat.reduceEqDiff, Nat.reduceLT, Nat.reduceSub, Nat.reduceAdd, Nat.reduceMul]
  repeat refine peel ?_
  refine hK _ _ _ ?_; clear hK K
  refine awp_reg zs [1, 3, 4, 5, 6, 7, 8] fun K hK => ?_
  try simp only [go_sem, ↓reduceIte, Nat.reduceEqDiff, Nat.reduceLT, Nat.reduceSub, Nat.reduceAdd, Nat.reduceMul]
  repeat refine peel ?_
  refine hK _ _ _ ?_; clear hK K
  refine awp_reg zs [1, 3, 4, 5, 6, 7, 8, 9] fun K hK => ?_
  try simp only [go_sem, ↓reduceIte, Nat.reduceEqDiff, Nat.reduceLT, Nat.reduceSub, Nat.reduceAdd, Nat.reduceMul]
  repeat refine peel ?_
  refine hK _ _ _ ?_; clear hK K
  refine awp_reg zs [1, 3, 4, 5, 6, 7, 8, 9, 10] fun K hK => ?_
  try simp only [go_sem, ↓reduceIte, Nat.reduceEqDiff, Nat.reduceLT, Nat.reduceSub, Nat.reduceAdd, Nat.reduceMul]
  repeat refine peel ?_
  refine hK _ _ _ ?_; clear hK K
  refine awp_seq_k fun K1 hK1 => ?_
  refine awp_reg zs [1, 3, 4, 5, 6, 7, 8, 9, 10, 23] fun K hK => ?_
  try simp only [go_sem, ↓reduceIte, Nat.reduceEqDiff, Nat.reduceLT, Nat.reduceSub, Nat.reduceAdd, Nat.reduceMul, hHn]
  repeat refine peel ?_
  refine hK _ _ _ ?_; clear hK K
  refine awp_block ?_
  refine awp_reg zs [1, 3, 4, 5, 6, 7, 8, 9, 10, 23, 24] fun K hK => ?_
  try simp only [go_sem, ↓reduceIte, Nat.reduceEqDiff, Nat.reduceLT, Nat.reduceSub, Nat.reduceAdd, Nat.reduceMul]
  repeat refine peel ?_
  refine hK _ _ _ ?_; clear hK K
  refine awp_cnd (fun hb => ?_) (fun hb => ?_)
  ·skip
   refine awp_reg zs [1, 3, 5, 7, 9, 10] fun K hK => ?_
   try simp only [go_sem, ↓reduceIte, Nat.reduceEqDiff, Nat.reduceLT, Nat.reduceSub, Nat.reduceAdd, Nat.reduceMul, List.getD_cons_zero, List.getD_cons_succ]
   repeat refine peel ?_
   refine callK_use Tryz.func14 rfl rfl rfl ((a_retain_Sort hLd (by omega) hl)) ?_
   try simp only [go_sem, ↓reduceIte, Nat.reduceEqDiff, Nat.reduceLT, Nat.reduceSub, Nat.reduceAdd, Nat.reduceMul, List.getD_cons_zero, List.getD_cons_succ]
   repeat refine peel ?_
   refine hK _ _ _ ?_; clear hK K
   refine awp_reg1 zs [1, 3, 5, 6, 7, 8, 9, 10] fun K hK => ?_
   try simp only [go_sem, ↓reduceIte, Nat.reduceEqDiff, Nat.reduceLT, Nat.reduceSub, Nat.reduceAdd, Nat.reduceMul, List.getD_cons_zero, List.getD_cons_succ, hHn]
   repeat refine peel ?_
   refine callK_use Tryz.func15 rfl rfl rfl ((c_ref3_Sort l (by omega) hf _ _)) ?_
   try simp only [go_sem, ↓reduceIte, Nat.reduceEqDiff, Nat.reduceLT, Nat.reduceSub, Nat.reduceAdd, Nat.reduceMul, List.getD_cons_zero, List.getD_cons_succ, hHn]
   repeat refine peel ?_
   refine hK _ _ _ ?_; clear hK K
   try simp only [go_sem, ↓reduceIte, Nat.reduceEqDiff, Nat.reduceLT, Nat.reduceSub, Nat.reduceAdd, Nat.reduceMul]
   refine hK1 _ _ _ ?_
   first | clear hK1 K1 | skip
   have hx1 := rSortE_len l
   have hx2 := rVisE_len s clock l
   have hx3 := rReadE_len s clock t vn l
   have hx4 := rSquashE_len s clock major t l
   refine awp_reg zs [2] fun K hK => ?_
   try simp only [go_sem, ↓reduceIte, Nat.reduceEqDiff, Nat.reduceLT, Nat.reduceSub, Nat.reduceAdd, Nat.reduceMul, hHn, beq_self_eq_true, show (true == true) = true from rfl, show (true == false) = false from rfl, forall_const, true_implies, Bool.false_or, Bool.or_true]
   repeat refine peel ?_
   refine callK_use Tryz.func16 rfl rfl rfl ((by apply c_law_num <;> first | assumption | omega)) ?_
   try simp only [go_sem, ↓reduceIte, Nat.reduceEqDiff, Nat.reduceLT, Nat.reduceSub, Nat.reduceAdd, Nat.reduceMul, hHn, beq_self_eq_true, show (true == true) = true from rfl, show (true == false) = false from rfl, forall_const, true_implies, Bool.false_or, Bool.or_true]
   repeat refine peel ?_
   refine ⟨fun _ => ?_, fun h => by cases h⟩
   refine callK_useK (args' := [.loc (n + 1) 0 0 0 [], entsAV l]) Tryz.func59 rfl rfl rfl (c_law_stands l (by omega) (fun e he => by have := hf2 e he; omega) _ _ (n + 1) (by omega) hLd) ?_ ?_
   rotate_left
   · intro p H' n' h; cases h.1
   rintro r H3 n3 ⟨hr3, hn3, hrest3⟩
   cases hr3
   try simp only [go_sem, ↓reduceIte, Nat.reduceEqDiff, Nat.reduceLT, Nat.reduceSub, Nat.reduceAdd, Nat.reduceMul, hHn, beq_self_eq_true, show (true == true) = true from rfl, show (true == false) = false from rfl, forall_const, true_implies, Bool.false_or, Bool.or_true]
   repeat refine peel ?_
   first
   | refine callG_use Tryz.func17 rfl rfl rfl (fun _ => a_ref3_SameAll (rSortE l).1 (by omega) _ _) ?_
   | refine callG_use Tryz.func17 rfl rfl rfl (fun _ => a_ref3_SameAll (rVisE s clock l).1 (by omega) _ _) ?_
   | refine callG_use Tryz.func17 rfl rfl rfl (fun _ => a_ref3_SameAll (rReadE s clock t vn l).1 (by omega) _ _) ?_
   | refine callG_use Tryz.func17 rfl rfl rfl (fun _ => a_ref3_SameAll (rSquashE s clock major t l).1 (by omega) _ _) ?_
   | refine callG_use Tryz.func17 rfl rfl rfl (fun _ => Ret.wk (a_ref3_SameAll [] (by decide) _ _) ⟨Wk.nilsl 7, Wk.nilsl 7, trivial⟩) ?_
   try simp only [go_sem, ↓reduceIte, Nat.reduceEqDiff, Nat.reduceLT, Nat.reduceSub, Nat.reduceAdd, Nat.reduceMul, hHn, beq_self_eq_true, show (true == true) = true from rfl, show (true == false) = false from rfl, forall_const, true_implies, Bool.false_or, Bool.or_true]
   repeat refine peel ?_
   refine hK _ _ _ ?_; clear hK K
   refine awp_ret ?_
   try simp only [go_sem, ↓reduceIte, Nat.reduceEqDiff, Nat.reduceLT, Nat.reduceSub, Nat.reduceAdd, Nat.reduceMul]
   exact ⟨_, rfl, fun k hk => (hrest3 k (by omega)).trans (hlow k hk), .kl trivial⟩
  ·skip
   refine awp_reg zs [1, 3, 4, 5, 6, 7, 8, 9, 10, 23, 37] fun K hK => ?_
   try simp only [go_sem, ↓reduceIte, Nat.reduceEqDiff, Nat.reduceLT, Nat.reduceSub, Nat.reduceAdd, Nat.reduceMul]
   repeat refine peel ?_
   refine hK _ _ _ ?_; clear hK K
   refine awp_cnd (fun hb => ?_) (fun hb => ?_)
   ·skip
    refine awp_reg zs [1, 3, 5, 7, 9, 10] fun K hK => ?_
    try simp only [go_sem, ↓reduceIte, Nat.reduceEqDiff, Nat.reduceLT, Nat.reduceSub, Nat.reduceAdd, Nat.reduceMul, List.getD_cons_zero, List.getD_cons_succ, hHn]
    repeat refine peel ?_
    refine callK_use Tryz.func18 rfl rfl rfl ((a_retain_Vis hLd (by omega) hl s clock)) ?_
    try simp only [go_sem, ↓reduceIte, Nat.reduceEqDiff, Nat.reduceLT, Nat.reduceSub, Nat.reduceAdd, Nat.reduceMul, List.getD_cons_zero, List.getD_cons_succ, hHn]
    repeat refine peel ?_
    refine hK _ _ _ ?_; clear hK K
    refine awp_reg1 zs [1, 3, 5, 6, 7, 8, 9, 10] fun K hK => ?_
    try simp only [go_sem, ↓reduceIte, Nat.reduceEqDiff, Nat.reduceLT, Nat.reduceSub, Nat.reduceAdd, Nat.reduceMul, List.getD_cons_zero, List.getD_cons_succ, hHn]
    repeat refine peel ?_
    refine callK_use Tryz.func19 rfl rfl rfl ((c_ref3_Vis s clock l (by omega) hf _ _)) ?_
    try simp only [go_sem, ↓reduceIte, Nat.reduceEqDiff, Nat.reduceLT, Nat.reduceSub, Nat.reduceAdd, Nat.reduceMul, List.getD_cons_zero, List.getD_cons_succ, hHn]
    repeat refine peel ?_
    refine hK _ _ _ ?_; clear hK K
    try simp only [go_sem, ↓reduceIte, Nat.reduceEqDiff, Nat.reduceLT, Nat.reduceSub, Nat.reduceAdd, Nat.reduceMul]
    refine hK1 _ _ _ ?_
    first | clear hK1 K1 | skip
    have hx1 := rSortE_len l
    have hx2 := rVisE_len s clock l
    have hx3 := rReadE_len s clock t vn l
    have hx4 := rSquashE_len s clock major t l
    refine awp_reg zs [2] fun K hK => ?_
    try simp only [go_sem, ↓reduceIte, Nat.reduceEqDiff, Nat.reduceLT, Nat.reduceSub, Nat.reduceAdd, Nat.reduceMul, hHn, beq_self_eq_true, show (true == true) = true from rfl, show (true == false) = false from rfl, forall_const, true_implies, Bool.false_or, Bool.or_true]
    repeat refine peel ?_
    refine callK_use Tryz.func16 rfl rfl rfl ((by apply c_law_num <;> first | assumption | omega)) ?_
    try simp only [go_sem, ↓reduceIte, Nat.reduceEqDiff, Nat.reduceLT, Nat.reduceSub, Nat.reduceAdd, Nat.reduceMul, hHn, beq_self_eq_true, show (true == true) = true from rfl, show (true == false) = false from rfl, forall_const, true_implies, Bool.false_or, Bool.or_true]
    repeat refine peel ?_
    refine ⟨fun _ => ?_, fun h => by cases h⟩
    refine callK_useK (args' := [.loc (n + 1) 0 0 0 [], entsAV l]) Tryz.func59 rfl rfl rfl (c_law_stands l (by omega) (fun e he => by have := hf2 e he; omega) _ _ (n + 1) (by omega) hLd) ?_ ?_
    rotate_left
    · intro p H' n' h; cases h.1
    rintro r H3 n3 ⟨hr3, hn3, hrest3⟩
    cases hr3
    try simp only [go_sem, ↓reduceIte, Nat.reduceEqDiff, Nat.reduceLT, Nat.reduceSub, Nat.reduceAdd, Nat.reduceMul, hHn, beq_self_eq_true, show (true == true) = true from rfl, show (true == false) = false from rfl, forall_const, true_implies, Bool.false_or, Bool.or_true]
    repeat refine peel ?_
    first
    | refine callG_use Tryz.func17 rfl rfl rfl (fun _ => a_ref3_SameAll (rSortE l).1 (by omega) _ _) ?_
    | refine callG_use Tryz.func17 rfl rfl rfl (fun _ => a_ref3_SameAll (rVisE s clock l).1 (by omega) _ _) ?_
    | refine callG_use Tryz.func17 rfl rfl rfl (fun _ => a_ref3_SameAll (rReadE s clock t vn l).1 (by omega) _ _) ?_
    | refine callG_use Tryz.func17 rfl rfl rfl (fun _ => a_ref3_SameAll (rSquashE s clock major t l).1 (by omega) _ _) ?_
    | refine callG_use Tryz.func17 rfl rfl rfl (fun _ => Ret.wk (a_ref3_SameAll [] (by decide) _ _) ⟨Wk.nilsl 7, Wk.nilsl 7, trivial⟩) ?_
    try simp only [go_sem, ↓reduceIte, Nat.reduceEqDiff, Nat.reduceLT, Nat.reduceSub, Nat.reduceAdd, Nat.reduceMul, hHn, beq_self_eq_true, show (true == true) = true from rfl, show (true == false) = false from rfl, forall_const, true_implies, Bool.false_or, Bool.or_true]
    repeat refine peel ?_
    refine hK _ _ _ ?_; clear hK K
    refine awp_ret ?_
    try simp only [go_sem, ↓reduceIte, Nat.reduceEqDiff, Nat.reduceLT, Nat.reduceSub, Nat.reduceAdd, Nat.reduceMul]
    exact ⟨_, rfl, fun k hk => (hrest3 k (by omega)).trans (hlow k hk), .kl trivial⟩
   ·skip
    refine awp_reg zs [1, 3, 4, 5, 6, 7, 8, 9, 10, 23, 58] fun K hK => ?_
    try simp only [go_sem, ↓reduceIte, Nat.reduceEqDiff, Nat.reduceLT, Nat.reduceSub, Nat.reduceAdd, Nat.reduceMul]
    repeat refine peel ?_
    refine hK _ _ _ ?_; clear hK K
    refine awp_cnd (fun hb => ?_) (fun hb => ?_)
    ·skip
     refine awp_reg zs [1, 3, 5, 7, 9, 10] fun K hK => ?_
     try simp only [go_sem, ↓reduceIte, Nat.reduceEqDiff, Nat.reduceLT, Nat.reduceSub, Nat.reduceAdd, Nat.reduceMul, List.getD_cons_zero, List.getD_cons_succ, hHn]
     repeat refine peel ?_
     refine callK_use Tryz.func20 rfl rfl rfl ((a_retain_Read hLd (by omega) hl s clock t vn)) ?_
     try simp only [go_sem, ↓reduceIte, Nat.reduceEqDiff, Nat.reduceLT, Nat.reduceSub, Nat.reduceAdd, Nat.reduceMul, List.getD_cons_zero, List.getD_cons_succ, hHn]
     repeat refine peel ?_
     refine hK _ _ _ ?_; clear hK K
     refine awp_reg1 zs [1, 3, 5, 6, 7, 8, 9, 10] fun K hK => ?_
     try simp only [go_sem, ↓reduceIte, Nat.reduceEqDiff, Nat.reduceLT, Nat.reduceSub, Nat.reduceAdd, Nat.reduceMul, List.getD_cons_zero, List.getD_cons_succ, hHn]
     repeat refine peel ?_
     refine callK_use Tryz.func21 rfl rfl rfl ((c_ref3_Read s clock t vn l (by omega) hf _ _)) ?_
     try simp only [go_sem, ↓reduceIte, Nat.reduceEqDiff, Nat.reduceLT, Nat.reduceSub, Nat.reduceAdd, Nat.reduceMul, List.getD_cons_zero, List.getD_cons_succ, hHn]
     repeat refine peel ?_
     refine hK _ _ _ ?_; clear hK K
     try simp only [go_sem, ↓reduceIte, Nat.reduceEqDiff, Nat.reduceLT, Nat.reduceSub, Nat.reduceAdd, Nat.reduceMul]
     refine hK1 _ _ _ ?_
     first | clear hK1 K1 | skip
     have hx1 := rSortE_len l
     have hx2 := rVisE_len s clock l
     have hx3 := rReadE_len s clock t vn l
     have hx4 := rSquashE_len s clock major t l
     refine awp_reg zs [2] fun K hK => ?_
     try simp only [go_sem, ↓reduceIte, Nat.reduceEqDiff, Nat.reduceLT, Nat.reduceSub, Nat.reduceAdd, Nat.reduceMul, hHn, beq_self_eq_true, show (true == true) = true from rfl, show (true == false) = false from rfl, forall_const, true_implies, Bool.false_or, Bool.or_true]
     repeat refine peel ?_
     refine callK_use Tryz.func16 rfl rfl rfl ((by apply c_law_num <;> first | assumption | omega)) ?_
     try simp only [go_sem, ↓reduceIte, Nat.reduceEqDiff, Nat.reduceLT, Nat.reduceSub, Nat.reduceAdd, Nat.reduceMul, hHn, beq_self_eq_true, show (true == true) = true from rfl, show (true == false) = false from rfl, forall_const, true_implies, Bool.false_or, Bool.or_true]
     repeat refine peel ?_
     refine ⟨fun _ => ?_, fun h => by cases h⟩
     refine callK_useK (args' := [.loc (n + 1) 0 0 0 [], entsAV l]) Tryz.func59 rfl rfl rfl (c_law_stands l (by omega) (fun e he => by have := hf2 e he; omega) _ _ (n + 1) (by omega) hLd) ?_ ?_
     rotate_left
     · intro p H' n' h; cases h.1
     rintro r H3 n3 ⟨hr3, hn3, hrest3⟩
     cases hr3
     try simp only [go_sem, ↓reduceIte, Nat.reduceEqDiff, Nat.reduceLT, Nat.reduceSub, Nat.reduceAdd, Nat.reduceMul, hHn, beq_self_eq_true, show (true == true) = true from rfl, show (true == false) = false from rfl, forall_const, true_implies, Bool.false_or, Bool.or_true]
     repeat refine peel ?_
     first
     | refine callG_use Tryz.func17 rfl rfl rfl (fun _ => a_ref3_SameAll (rSortE l).1 (by omega) _ _) ?_
     | refine callG_use Tryz.func17 rfl rfl rfl (fun _ => a_ref3_SameAll (rVisE s clock l).1 (by omega) _ _) ?_
     | refine callG_use Tryz.func17 rfl rfl rfl (fun _ => a_ref3_SameAll (rReadE s clock t vn l).1 (by omega) _ _) ?_
     | refine callG_use Tryz.func17 rfl rfl rfl (fun _ => a_ref3_SameAll (rSquashE s clock major t l).1 (by omega) _ _) ?_
     | refine callG_use Tryz.func17 rfl rfl rfl (fun _ => Ret.wk (a_ref3_SameAll [] (by decide) _ _) ⟨Wk.nilsl 7, Wk.nilsl 7, trivial⟩) ?_
     try simp only [go_sem, ↓reduceIte, Nat.reduceEqDiff, Nat.reduceLT, Nat.reduceSub, Nat.reduceAdd, Nat.reduceMul, hHn, beq_self_eq_true, show (true == true) = true from rfl, show (true == false) = false from rfl, forall_const, true_implies, Bool.false_or, Bool.or_true]
     repeat refine peel ?_
     refine hK _ _ _ ?_; clear hK K
     refine awp_ret ?_
     try simp only [go_sem, ↓reduceIte, Nat.reduceEqDiff, Nat.reduceLT, Nat.reduceSub, Nat.reduceAdd, Nat.reduceMul]
     exact ⟨_, rfl, fun k hk => (hrest3 k (by omega)).trans (hlow k hk), .kl trivial⟩
    ·skip
     refine awp_reg zs [1, 3, 4, 5, 6, 7, 8, 9, 10, 23, 87] fun K hK => ?_
     try simp only [go_sem, ↓reduceIte, Nat.reduceEqDiff, Nat.reduceLT, Nat.reduceSub, Nat.reduceAdd, Nat.reduceMul]
     repeat refine peel ?_
     refine hK _ _ _ ?_; clear hK K
     refine awp_cnd (fun hb => ?_) (fun hb => ?_)
     ·skip
      refine awp_reg zs [1, 3, 5, 7, 9, 10] fun K hK => ?_
      try simp only [go_sem, ↓reduceIte, Nat.reduceEqDiff, Nat.reduceLT, Nat.reduceSub, Nat.reduceAdd, Nat.reduceMul, List.getD_cons_zero, List.getD_cons_succ, hHn]
      repeat refine peel ?_
      refine callK_use Tryz.func22 rfl rfl rfl ((a_retain_Squash hLd (by omega) hl s clock t major)) ?_
      try simp only [go_sem, ↓reduceIte, Nat.reduceEqDiff, Nat.reduceLT, Nat.reduceSub, Nat.reduceAdd, Nat.reduceMul, List.getD_cons_zero, List.getD_cons_succ, hHn]
      repeat refine peel ?_
      refine hK _ _ _ ?_; clear hK K
      refine awp_reg1 zs [1, 3, 5, 6, 7, 8, 9, 10] fun K hK => ?_
      try simp only [go_sem, ↓reduceIte, Nat.reduceEqDiff, Nat.reduceLT, Nat.reduceSub, Nat.reduceAdd, Nat.reduceMul, List.getD_cons_zero, List.getD_cons_succ, hHn]
      repeat refine peel ?_
      refine callK_use Tryz.func23 rfl rfl rfl ((c_ref3_Squash s clock t major l (by omega) hf _ _)) ?_
      try simp only [go_sem, ↓reduceIte, Nat.reduceEqDiff, Nat.reduceLT, Nat.reduceSub, Nat.reduceAdd, Nat.reduceMul, List.getD_cons_zero, List.getD_cons_succ, hHn]
      repeat refine peel ?_
      refine hK _ _ _ ?_; clear hK K
      try simp only [go_sem, ↓reduceIte, Nat.reduceEqDiff, Nat.reduceLT, Nat.reduceSub, Nat.reduceAdd, Nat.reduceMul]
      refine hK1 _ _ _ ?_
      first | clear hK1 K1 | skip
      have hx1 := rSortE_len l
      have hx2 := rVisE_len s clock l
      have hx3 := rReadE_len s clock t vn l
      have hx4 := rSquashE_len s clock major t l
      refine awp_reg zs [2] fun K hK => ?_
      try simp only [go_sem, ↓reduceIte, Nat.reduceEqDiff, Nat.reduceLT, Nat.reduceSub, Nat.reduceAdd, Nat.reduceMul, hHn, beq_self_eq_true, show (true == true) = true from rfl, show (true == false) = false from rfl, forall_const, true_implies, Bool.false_or, Bool.or_true]
      repeat refine peel ?_
      refine callK_use Tryz.func16 rfl rfl rfl ((by apply c_law_num <;> first | assumption | omega)) ?_
      try simp only [go_sem, ↓reduceIte, Nat.reduceEqDiff, Nat.reduceLT, Nat.reduceSub, Nat.reduceAdd, Nat.reduceMul, hHn, beq_self_eq_true, show (true == true) = true from rfl, show (true == false) = false from rfl, forall_const, true_implies, Bool.false_or, Bool.or_true]
      repeat refine peel ?_
      refine ⟨fun _ => ?_, fun h => by cases h⟩
      refine callK_useK (args' := [.loc (n + 1) 0 0 0 [], entsAV l]) Tryz.func59 rfl rfl rfl (c_law_stands l (by omega) (fun e he => by have := hf2 e he; omega) _ _ (n + 1) (by omega) hLd) ?_ ?_
      rotate_left
      · intro p H' n' h; cases h.1
      rintro r H3 n3 ⟨hr3, hn3, hrest3⟩
      cases hr3
      try simp only [go_sem, ↓reduceIte, Nat.reduceEqDiff, Nat.reduceLT, Nat.reduceSub, Nat.reduceAdd, Nat.reduceMul, hHn, beq_self_eq_true, show (true == true) = true from rfl, show (true == false) = false from rfl, forall_const, true_implies, Bool.false_or, Bool.or_true]
      repeat refine peel ?_
      first
      | refine callG_use Tryz.func17 rfl rfl rfl (fun _ => a_ref3_SameAll (rSortE l).1 (by omega) _ _) ?_
      | refine callG_use Tryz.func17 rfl rfl rfl (fun _ => a_ref3_SameAll (rVisE s clock l).1 (by omega) _ _) ?_
      | refine callG_use Tryz.func17 rfl rfl rfl (fun _ => a_ref3_SameAll (rReadE s clock t vn l).1 (by omega) _ _) ?_
      | refine callG_use Tryz.func17 rfl rfl rfl (fun _ => a_ref3_SameAll (rSquashE s clock major t l).1 (by omega) _ _) ?_
      | refine callG_use Tryz.func17 rfl rfl rfl (fun _ => Ret.wk (a_ref3_SameAll [] (by decide) _ _) ⟨Wk.nilsl 7, Wk.nilsl 7, trivial⟩) ?_
      try simp only [go_sem, ↓reduceIte, Nat.reduceEqDiff, Nat.reduceLT, Nat.reduceSub, Nat.reduceAdd, Nat.reduceMul, hHn, beq_self_eq_true, show (true == true) = true from rfl, show (true == false) = false from rfl, forall_const, true_implies, Bool.false_or, Bool.or_true]
      repeat refine peel ?_
      refine hK _ _ _ ?_; clear hK K
      refine awp_ret ?_
      try simp only [go_sem, ↓reduceIte, Nat.reduceEqDiff, Nat.reduceLT, Nat.reduceSub, Nat.reduceAdd, Nat.reduceMul]
      exact ⟨_, rfl, fun k hk => (hrest3 k (by omega)).trans (hlow k hk), .kl trivial⟩
     ·skip
      refine awp_reg zs [1, 3, 4, 5, 6, 7, 8, 9, 10, 116] fun K hK => ?_
      try simp only [go_sem, ↓reduceIte, Nat.reduceEqDiff, Nat.reduceLT, Nat.reduceSub, Nat.reduceAdd, Nat.reduceMul]
      repeat refine peel ?_
      refine hK _ _ _ ?_; clear hK K
      refine awp_cnd (fun hb => ?_) (fun hb => ?_)
      ·skip
       refine awp_reg zs [1, 3, 5, 6, 7, 9] fun K hK => ?_
       try simp only [go_sem, ↓reduceIte, Nat.reduceEqDiff, Nat.reduceLT, Nat.reduceSub, Nat.reduceAdd, Nat.reduceMul, List.getD_cons_zero, List.getD_cons_succ, hHn]
       repeat refine peel ?_
       refine callK_use Tryz.func24 rfl rfl rfl ((a_retain_Top hLd (by omega) hl s clock)) ?_
       try simp only [go_sem, ↓reduceIte, Nat.reduceEqDiff, Nat.reduceLT, Nat.reduceSub, Nat.reduceAdd, Nat.reduceMul, List.getD_cons_zero, List.getD_cons_succ, hHn]
       repeat refine peel ?_
       refine hK _ _ _ ?_; clear hK K
       refine awp_reg1 zs [1, 3, 5, 6, 7, 8, 9, 10] fun K hK => ?_
       try simp only [go_sem, ↓reduceIte, Nat.reduceEqDiff, Nat.reduceLT, Nat.reduceSub, Nat.reduceAdd, Nat.reduceMul, List.getD_cons_zero, List.getD_cons_succ, hHn]
       repeat refine peel ?_
       refine callK_use Tryz.func25 rfl rfl rfl ((c_ref3_Top s clock l (by omega) hf _ _)) ?_
       try simp only [go_sem, ↓reduceIte, Nat.reduceEqDiff, Nat.reduceLT, Nat.reduceSub, Nat.reduceAdd, Nat.reduceMul, List.getD_cons_zero, List.getD_cons_succ, hHn]
       repeat refine peel ?_
       refine hK _ _ _ ?_; clear hK K
       try simp only [go_sem, ↓reduceIte, Nat.reduceEqDiff, Nat.reduceLT, Nat.reduceSub, Nat.reduceAdd, Nat.reduceMul]
       refine hK1 _ _ _ ?_
       first | clear hK1 K1 | skip
       have hx1 := rSortE_len l
       have hx2 := rVisE_len s clock l
       have hx3 := rReadE_len s clock t vn l
       have hx4 := rSquashE_len s clock major t l
       refine awp_reg zs [2] fun K hK => ?_
       try simp only [go_sem, ↓reduceIte, Nat.reduceEqDiff, Nat.reduceLT, Nat.reduceSub, Nat.reduceAdd, Nat.reduceMul, hHn, beq_self_eq_true, show (true == true) = true from rfl, show (true == false) = false from rfl, forall_const, true_implies, Bool.false_or, Bool.or_true]
       repeat refine peel ?_
       refine callK_use Tryz.func16 rfl rfl rfl ((by apply c_law_num <;> first | assumption | omega)) ?_
       try simp only [go_sem, ↓reduceIte, Nat.reduceEqDiff, Nat.reduceLT, Nat.reduceSub, Nat.reduceAdd, Nat.reduceMul, hHn, beq_self_eq_true, show (true == true) = true from rfl, show (true == false) = false from rfl, forall_const, true_implies, Bool.false_or, Bool.or_true]
       repeat refine peel ?_
       refine ⟨fun _ => ?_, fun h => by cases h⟩
       refine callK_useK (args' := [.loc (n + 1) 0 0 0 [], entsAV l]) Tryz.func59 rfl rfl rfl (c_law_stands l (by omega) (fun e he => by have := hf2 e he; omega) _ _ (n + 1) (by omega) hLd) ?_ ?_
       rotate_left
       · intro p H' n' h; cases h.1
       rintro r H3 n3 ⟨hr3, hn3, hrest3⟩
       cases hr3
       try simp only [go_sem, ↓reduceIte, Nat.reduceEqDiff, Nat.reduceLT, Nat.reduceSub, Nat.reduceAdd, Nat.reduceMul, hHn, beq_self_eq_true, show (true == true) = true from rfl, show (true == false) = false from rfl, forall_const, true_implies, Bool.false_or, Bool.or_true]
       repeat refine peel ?_
       first
       | refine callG_use Tryz.func17 rfl rfl rfl (fun _ => a_ref3_SameAll (rSortE l).1 (by omega) _ _) ?_
       | refine callG_use Tryz.func17 rfl rfl rfl (fun _ => a_ref3_SameAll (rVisE s clock l).1 (by omega) _ _) ?_
       | refine callG_use Tryz.func17 rfl rfl rfl (fun _ => a_ref3_SameAll (rReadE s clock t vn l).1 (by omega) _ _) ?_
       | refine callG_use Tryz.func17 rfl rfl rfl (fun _ => a_ref3_SameAll (rSquashE s clock major t l).1 (by omega) _ _) ?_
       | refine callG_use Tryz.func17 rfl rfl rfl (fun _ => Ret.wk (a_ref3_SameAll [] (by decide) _ _) ⟨Wk.nilsl 7, Wk.nilsl 7, trivial⟩) ?_
       try simp only [go_sem, ↓reduceIte, Nat.reduceEqDiff, Nat.reduceLT, Nat.reduceSub, Nat.reduceAdd, Nat.reduceMul, hHn, beq_self_eq_true, show (true == true) = true from rfl, show (true == false) = false from rfl, forall_const, true_implies, Bool.false_or, Bool.or_true]
       repeat refine peel ?_
       refine hK _ _ _ ?_; clear hK K
       refine awp_ret ?_
       try simp only [go_sem, ↓reduceIte, Nat.reduceEqDiff, Nat.reduceLT, Nat.reduceSub, Nat.reduceAdd, Nat.reduceMul]
       exact ⟨_, rfl, fun k hk => (hrest3 k (by omega)).trans (hlow k hk), .kl trivial⟩
      ·skip
       refine awp_skip ?_
       try simp only [go_sem, ↓reduceIte, Nat.reduceEqDiff, Nat.reduceLT, Nat.reduceSub, Nat.reduceAdd, Nat.reduceMul]
       refine hK1 _ _ _ ?_
       first | clear hK1 K1 | skip
       have hx1 := rSortE_len l
       have hx2 := rVisE_len s clock l
       have hx3 := rReadE_len s clock t vn l
       have hx4 := rSquashE_len s clock major t l
       refine awp_reg zs [2] fun K hK => ?_
       try simp only [go_sem, ↓reduceIte, Nat.reduceEqDiff, Nat.reduceLT, Nat.reduceSub, Nat.reduceAdd, Nat.reduceMul, hHn, beq_self_eq_true, show (true == true) = true from rfl, show (true == false) = false from rfl, forall_const, true_implies, Bool.false_or, Bool.or_true]
       repeat refine peel ?_
       refine callK_use Tryz.func16 rfl rfl rfl ((by apply c_law_num <;> first | assumption | omega)) ?_
       try simp only [go_sem, ↓reduceIte, Nat.reduceEqDiff, Nat.reduceLT, Nat.reduceSub, Nat.reduceAdd, Nat.reduceMul, hHn, beq_self_eq_true, show (true == true) = true from rfl, show (true == false) = false from rfl, forall_const, true_implies, Bool.false_or, Bool.or_true]
       repeat refine peel ?_
       refine ⟨fun _ => ?_, fun h => by cases h⟩
       refine callK_useK (args' := [.loc (n + 1) 0 0 0 [], entsAV l]) Tryz.func59 rfl rfl rfl (c_law_stands l (by omega) (fun e he => by have := hf2 e he; omega) _ _ (n + 1) (by omega) hLd) ?_ ?_
       rotate_left
       · intro p H' n' h; cases h.1
       rintro r H3 n3 ⟨hr3, hn3, hrest3⟩
       cases hr3
       try simp only [go_sem, ↓reduceIte, Nat.reduceEqDiff, Nat.reduceLT, Nat.reduceSub, Nat.reduceAdd, Nat.reduceMul, hHn, beq_self_eq_true, show (true == true) = true from rfl, show (true == false) = false from rfl, forall_const, true_implies, Bool.false_or, Bool.or_true]
       repeat refine peel ?_
       first
       | refine callG_use Tryz.func17 rfl rfl rfl (fun _ => a_ref3_SameAll (rSortE l).1 (by omega) _ _) ?_
       | refine callG_use Tryz.func17 rfl rfl rfl (fun _ => a_ref3_SameAll (rVisE s clock l).1 (by omega) _ _) ?_
       | refine callG_use Tryz.func17 rfl rfl rfl (fun _ => a_ref3_SameAll (rReadE s clock t vn l).1 (by omega) _ _) ?_
       | refine callG_use Tryz.func17 rfl rfl rfl (fun _ => a_ref3_SameAll (rSquashE s clock major t l).1 (by omega) _ _) ?_
       | refine callG_use Tryz.func17 rfl rfl rfl (fun _ => Ret.wk (a_ref3_SameAll [] (by decide) _ _) ⟨Wk.nilsl 7, Wk.nilsl 7, trivial⟩) ?_
       try simp only [go_sem, ↓reduceIte, Nat.reduceEqDiff, Nat.reduceLT, Nat.reduceSub, Nat.reduceAdd, Nat.reduceMul, hHn, beq_self_eq_true, show (true == true) = true from rfl, show (true == false) = false from rfl, forall_const, true_implies, Bool.false_or, Bool.or_true]
       repeat refine peel ?_
       refine hK _ _ _ ?_; clear hK K
       refine awp_ret ?_
       try simp only [go_sem, ↓reduceIte, Nat.reduceEqDiff, Nat.reduceLT, Nat.reduceSub, Nat.reduceAdd, Nat.reduceMul]
       exact ⟨_, rfl, fun k hk => (hrest3 k (by omega)).trans (hlow k hk), .kl trivial⟩
end Go.Proofs.YtijhkfhflpmajaaGreat


namespace Go.Proofs.YtijhkfhflpmajaaGreat
open Go Go.Sx Go.Rt Go.Proofs

theorem askAV_sz (o : AskE) : (askAV o).sz = 7 := by simp [askAV, AV.sz, AV.szs, schAV, entsAV]
set_option maxRecDepth 100000 in
theorem c_law_plays (l : List AskE) (hl : l.length ≤ 1048576) (ho : ∀ o ∈ l, o.ok) (lo hi : Int) (H : Heap) (n : Nat) : Ret Tryz.prog 10 [asksAV l, .int .i64 lo, .int .i64 hi] H n (.bool true) H n := by
  refine acalls_of_awp Tryz.func10 rfl Tryz.ntmps10 (congrArg Array.toList Tryz.results10) (by simp) ?_
  simp only [go_sem]
  refine awp_reg zs [0, 1, 2] fun K hK => ?_
  try simp only [go_sem, ↓reduceIte, Nat.reduceEqDiff, Nat.reduceLT, Nat.reduceSub, Nat.reduceAdd, Nat.reduceMul]
  repeat refine peel ?_
  refine hK _ _ _ ?_; clear hK K
  refine awp_reg zs [0, 1, 2, 7] fun K hK => ?_
  try simp only [go_sem, ↓reduceIte, Nat.reduceEqDiff, Nat.reduceLT, Nat.reduceSub, Nat.reduceAdd, Nat.reduceMul]
  repeat refine peel ?_
  refine callK_use Tryz.func11 rfl rfl rfl ((c_law_started _ _)) ?_
  try simp only [go_sem, ↓reduceIte, Nat.reduceEqDiff, Nat.reduceLT, Nat.reduceSub, Nat.reduceAdd, Nat.reduceMul]
  repeat refine peel ?_
  refine hK _ _ _ ?_; clear hK K
  refine awp_seq_k fun K1 hK1 => ?_
  refine awp_reg zs [0, 1, 2, 7, 8] fun K hK => ?_
  try simp only [go_sem, ↓reduceIte, Nat.reduceEqDiff, Nat.reduceLT, Nat.reduceSub, Nat.reduceAdd, Nat.reduceMul]
  repeat refine peel ?_
  refine hK _ _ _ ?_; clear hK K
  refine awp_block ?_
  -- loop 0: head [0, 1, 2, 7, 8]
  refine awp_loop (fun T' H' n' => ∃ (i : Nat), i ≤ l.length ∧ T' = tl [(0, .sl 7 (l.map askAV)), (1, .int .i64 lo), (2, .int .i64 hi), (7, .bool true), (8, .int .i64 i)] ∧ H = H' ∧ n = n') (fun T' _ _ => l.length - iv (T' 8)) ?_ ?_
  ·skip
   exact ⟨0, Nat.zero_le _, rfl, rfl, rfl⟩
  intro T1 H1 n1
  rintro ⟨i, hi, rfl, rfl, rfl⟩
  refine awp_seq_k fun K2 hK2 => ?_
  refine awp_reg zs [0, 1, 2, 7, 8, 16] fun K hK => ?_
  try simp only [go_sem, ↓reduceIte, Nat.reduceEqDiff, Nat.reduceLT, Nat.reduceSub, Nat.reduceAdd, Nat.reduceMul, List.length_map]
  repeat refine peel ?_
  refine hK _ _ _ ?_; clear hK K
  refine awp_cnd (fun hb => ?_) (fun hb => ?_)
  ·skip
   have hlt : i < l.length := by by_cases h : i < l.length; exact h; simp [h] at hb
   have hnth : nth (l.map askAV) i = askAV (l.getD i default) := nth_map askAV l i hlt
   have hoi : (l.getD i default).ok := ho _ (by simp [List.getD, List.getElem?_eq_getElem hlt])
   generalize l.getD i default = o at *
   refine awp_skip ?_
   try simp only [go_sem, ↓reduceIte, Nat.reduceEqDiff, Nat.reduceLT, Nat.reduceSub, Nat.reduceAdd, Nat.reduceMul]
   refine hK2 _ _ _ ?_
   first | clear hK2 K2 | skip
   refine awp_seq_k fun K3 hK3 => ?_
   refine awp_block ?_
   refine awp_reg zs [0, 1, 2, 7, 8, 34] fun K hK => ?_
   try simp only [go_sem, ↓reduceIte, Nat.reduceEqDiff, Nat.reduceLT, Nat.reduceSub, Nat.reduceAdd, Nat.reduceMul, Int.toNat_natCast, hnth]
   repeat (first | (refine And.intro ?_ ?_; · first | (simp; omega) | (intro _; simp; omega)) | refine peel ?_)
   refine hK _ _ _ ?_; clear hK K
   refine awp_cnd (fun hb => ?_) (fun hb => ?_)
   ·skip
    refine awp_reg1 zs [0, 1, 2, 7, 8] fun K hK => ?_
    try simp only [go_sem, ↓reduceIte, Nat.reduceEqDiff, Nat.reduceLT, Nat.reduceSub, Nat.reduceAdd, Nat.reduceMul, Int.toNat_natCast, hnth]
    repeat (first | (refine And.intro ?_ ?_; · first | (simp; omega)) | refine peel ?_)
    refine callK_use Tryz.func29 rfl rfl rfl ((c_law_asked o hoi _ _)) ?_
    try simp only [go_sem, ↓reduceIte, Nat.reduceEqDiff, Nat.reduceLT, Nat.reduceSub, Nat.reduceAdd, Nat.reduceMul, Int.toNat_natCast, hnth]
    repeat (first | (refine And.intro ?_ ?_; · first | (simp; omega)) | refine peel ?_)
    refine hK _ _ _ ?_; clear hK K
    try simp only [go_sem, ↓reduceIte, Nat.reduceEqDiff, Nat.reduceLT, Nat.reduceSub, Nat.reduceAdd, Nat.reduceMul]
    refine hK3 _ _ _ ?_
    first | clear hK3 K3 | skip
    refine awp_reg1 zs [0, 1, 2, 7, 8] fun K hK => ?_
    try simp only [go_sem, ↓reduceIte, Nat.reduceEqDiff, Nat.reduceLT, Nat.reduceSub, Nat.reduceAdd, Nat.reduceMul]
    repeat refine peel ?_
    refine hK _ _ _ ?_; clear hK K
    try simp only [go_sem, ↓reduceIte, Nat.reduceEqDiff, Nat.reduceLT, Nat.reduceSub, Nat.reduceAdd, Nat.reduceMul]
    exact ⟨⟨i + 1, by omega, by rw [w1 (by omega)]⟩, by rw [w1 (by omega)]; simp; omega⟩
   ·skip
    refine awp_skip ?_
    try simp only [go_sem, ↓reduceIte, Nat.reduceEqDiff, Nat.reduceLT, Nat.reduceSub, Nat.reduceAdd, Nat.reduceMul]
    refine hK3 _ _ _ ?_
    first | clear hK3 K3 | skip
    refine awp_reg1 zs [0, 1, 2, 7, 8] fun K hK => ?_
    try simp only [go_sem, ↓reduceIte, Nat.reduceEqDiff, Nat.reduceLT, Nat.reduceSub, Nat.reduceAdd, Nat.reduceMul]
    repeat refine peel ?_
    refine hK _ _ _ ?_; clear hK K
    try simp only [go_sem, ↓reduceIte, Nat.reduceEqDiff, Nat.reduceLT, Nat.reduceSub, Nat.reduceAdd, Nat.reduceMul]
    exact ⟨⟨i + 1, by omega, by rw [w1 (by omega)]⟩, by rw [w1 (by omega)]; simp; omega⟩
  ·skip
   refine awp_exit ?_
   try simp only [go_sem, ↓reduceIte, Nat.reduceEqDiff, Nat.reduceLT, Nat.reduceSub, Nat.reduceAdd, Nat.reduceMul]
   refine hK1 _ _ _ ?_
   first | clear hK1 K1 | skip
   refine awp_reg zs [6] fun K hK => ?_
   try simp only [go_sem, ↓reduceIte, Nat.reduceEqDiff, Nat.reduceLT, Nat.reduceSub, Nat.reduceAdd, Nat.reduceMul]
   repeat refine peel ?_
   refine callG_use Tryz.func11 rfl rfl rfl (fun _ => (c_law_started _ _)) ?_
   try simp only [go_sem, ↓reduceIte, Nat.reduceEqDiff, Nat.reduceLT, Nat.reduceSub, Nat.reduceAdd, Nat.reduceMul]
   repeat refine peel ?_
   refine hK _ _ _ ?_; clear hK K
   refine awp_ret ?_
   try simp only [go_sem, ↓reduceIte, Nat.reduceEqDiff, Nat.reduceLT, Nat.reduceSub, Nat.reduceAdd, Nat.reduceMul]
   skip

theorem c_law_RetainSorts (l : List AskE) (hl : l.length ≤ 1048576) (ho : ∀ o ∈ l, o.ok) (H : Heap) (n : Nat) : Ret Tryz.prog 3 [asksAV l] H n (.bool true) H n := by
  refine acalls_of_awp Tryz.func3 rfl Tryz.ntmps3 (congrArg Array.toList Tryz.results3) (by simp) ?_
  simp only [go_sem]
  refine awp_reg zs [0] fun K hK => ?_
  try simp only [go_sem, ↓reduceIte, Nat.reduceEqDiff, Nat.reduceLT, Nat.reduceSub, Nat.reduceAdd, Nat.reduceMul]
  repeat refine peel ?_
  refine hK _ _ _ ?_; clear hK K
  refine awp_reg zs [2] fun K hK => ?_
  try simp only [go_sem, ↓reduceIte, Nat.reduceEqDiff, Nat.reduceLT, Nat.reduceSub, Nat.reduceAdd, Nat.reduceMul]
  repeat refine peel ?_
  refine callK_use Tryz.func10 rfl rfl rfl ((c_law_plays l hl ho 1 1 _ _)) ?_
  try simp only [go_sem, ↓reduceIte, Nat.reduceEqDiff, Nat.reduceLT, Nat.reduceSub, Nat.reduceAdd, Nat.reduceMul]
  repeat refine peel ?_
  refine hK _ _ _ ?_; clear hK K
  refine awp_ret ?_
  try simp only [go_sem, ↓reduceIte, Nat.reduceEqDiff, Nat.reduceLT, Nat.reduceSub, Nat.reduceAdd, Nat.reduceMul]
theorem c_law_RetainShows (l : List AskE) (hl : l.length ≤ 1048576) (ho : ∀ o ∈ l, o.ok) (H : Heap) (n : Nat) : Ret Tryz.prog 4 [asksAV l] H n (.bool true) H n := by
  refine acalls_of_awp Tryz.func4 rfl Tryz.ntmps4 (congrArg Array.toList Tryz.results4) (by simp) ?_
  simp only [go_sem]
  refine awp_reg zs [0] fun K hK => ?_
  try simp only [go_sem, ↓reduceIte, Nat.reduceEqDiff, Nat.reduceLT, Nat.reduceSub, Nat.reduceAdd, Nat.reduceMul]
  repeat refine peel ?_
  refine hK _ _ _ ?_; clear hK K
  refine awp_reg zs [2] fun K hK => ?_
  try simp only [go_sem, ↓reduceIte, Nat.reduceEqDiff, Nat.reduceLT, Nat.reduceSub, Nat.reduceAdd, Nat.reduceMul]
  repeat refine peel ?_
  refine callK_use Tryz.func10 rfl rfl rfl ((c_law_plays l hl ho 2 3 _ _)) ?_
  try simp only [go_sem, ↓reduceIte, Nat.reduceEqDiff, Nat.reduceLT, Nat.reduceSub, Nat.reduceAdd, Nat.reduceMul]
  repeat refine peel ?_
  refine callG_use Tryz.func10 rfl rfl rfl (fun _ => (c_law_plays l hl ho 5 5 _ _)) ?_
  try simp only [go_sem, ↓reduceIte, Nat.reduceEqDiff, Nat.reduceLT, Nat.reduceSub, Nat.reduceAdd, Nat.reduceMul]
  repeat refine peel ?_
  refine hK _ _ _ ?_; clear hK K
  refine awp_ret ?_
  try simp only [go_sem, ↓reduceIte, Nat.reduceEqDiff, Nat.reduceLT, Nat.reduceSub, Nat.reduceAdd, Nat.reduceMul]
theorem c_law_RetainSquashes (l : List AskE) (hl : l.length ≤ 1048576) (ho : ∀ o ∈ l, o.ok) (H : Heap) (n : Nat) : Ret Tryz.prog 5 [asksAV l] H n (.bool true) H n := by
  refine acalls_of_awp Tryz.func5 rfl Tryz.ntmps5 (congrArg Array.toList Tryz.results5) (by simp) ?_
  simp only [go_sem]
  refine awp_reg zs [0] fun K hK => ?_
  try simp only [go_sem, ↓reduceIte, Nat.reduceEqDiff, Nat.reduceLT, Nat.reduceSub, Nat.reduceAdd, Nat.reduceMul]
  repeat refine peel ?_
  refine hK _ _ _ ?_; clear hK K
  refine awp_reg zs [2] fun K hK => ?_
  try simp only [go_sem, ↓reduceIte, Nat.reduceEqDiff, Nat.reduceLT, Nat.reduceSub, Nat.reduceAdd, Nat.reduceMul]
  repeat refine peel ?_
  refine callK_use Tryz.func10 rfl rfl rfl ((c_law_plays l hl ho 4 4 _ _)) ?_
  try simp only [go_sem, ↓reduceIte, Nat.reduceEqDiff, Nat.reduceLT, Nat.reduceSub, Nat.reduceAdd, Nat.reduceMul]
  repeat refine peel ?_
  refine hK _ _ _ ?_; clear hK K
  refine awp_ret ?_
  try simp only [go_sem, ↓reduceIte, Nat.reduceEqDiff, Nat.reduceLT, Nat.reduceSub, Nat.reduceAdd, Nat.reduceMul]
theorem c_law_RetainPlays (l : List AskE) (hl : l.length ≤ 1048576) (ho : ∀ o ∈ l, o.ok) (H : Heap) (n : Nat) : Ret Tryz.prog 6 [asksAV l] H n (.bool true) H n := by
  refine acalls_of_awp Tryz.func6 rfl Tryz.ntmps6 (congrArg Array.toList Tryz.results6) (by simp) ?_
  simp only [go_sem]
  refine awp_reg zs [0] fun K hK => ?_
  try simp only [go_sem, ↓reduceIte, Nat.reduceEqDiff, Nat.reduceLT, Nat.reduceSub, Nat.reduceAdd, Nat.reduceMul]
  repeat refine peel ?_
  refine hK _ _ _ ?_; clear hK K
  refine awp_reg zs [2] fun K hK => ?_
  try simp only [go_sem, ↓reduceIte, Nat.reduceEqDiff, Nat.reduceLT, Nat.reduceSub, Nat.reduceAdd, Nat.reduceMul]
  repeat refine peel ?_
  refine callK_use Tryz.func10 rfl rfl rfl ((c_law_plays l hl ho 1 5 _ _)) ?_
  try simp only [go_sem, ↓reduceIte, Nat.reduceEqDiff, Nat.reduceLT, Nat.reduceSub, Nat.reduceAdd, Nat.reduceMul]
  repeat refine peel ?_
  refine hK _ _ _ ?_; clear hK K
  refine awp_ret ?_
  try simp only [go_sem, ↓reduceIte, Nat.reduceEqDiff, Nat.reduceLT, Nat.reduceSub, Nat.reduceAdd, Nat.reduceMul]
end Go.Proofs.YtijhkfhflpmajaaGreat

