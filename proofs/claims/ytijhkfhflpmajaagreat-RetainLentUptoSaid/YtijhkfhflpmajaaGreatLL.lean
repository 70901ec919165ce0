/- Own layer: the room that a list is lent out of: laid. Of the program; no condition. -/
import Derived.Test.YtijhkfhflpmajaaGreatLK
import Derived.Test.YtijhkfhflpmajaaGreatLG
set_option linter.unusedSimpArgs false
set_option linter.unusedVariables false
namespace Go.Proofs.YtijhkfhflpmajaaGreat
open Go Go.Sx Go.Rt Go.Proofs

def mkE (f : Int) : AV := .agg [.nilsl, .int .i64 f, .nilsl, .int .i64 0, .int .i64 0, .int .i64 0, .nilsl]
def lx (n i : Nat) (e : Ent) : LEnt := ⟨e, ⟨n + 3 + 4 * i, 2, (e.row ++ marksE).map byteAV⟩, ⟨n + 4 + 4 * i, 2, (e.qual ++ marksE).map byteAV⟩, ⟨n + 5 + 4 * i, 2, (e.value ++ marksE).map byteAV⟩⟩
def lxs (n : Nat) (l : List Ent) : Nat → List LEnt
  | 0 => []
  | i + 1 => lxs n l i ++ [lx n i (l.getD i default)]
def wx3 (n i : Nat) (e : Ent) : List AV := [.osl (n + 3 + 4 * i) 2 0 (e.row.length + 5), .osl (n + 4 + 4 * i) 2 0 (e.qual.length + 5), .osl (n + 5 + 4 * i) 2 0 (e.value.length + 5)]
def wx (n : Nat) (l : List Ent) : Nat → List AV
  | 0 => []
  | i + 1 => wx n l i ++ wx3 n i (l.getD i default)
theorem lxs_len (n : Nat) (l : List Ent) : ∀ i, (lxs n l i).length = i
  | 0 => rfl
  | i + 1 => by simp [lxs, lxs_len n l i]
theorem wx_len (n : Nat) (l : List Ent) : ∀ i, (wx n l i).length = 3 * i
  | 0 => rfl
  | i + 1 => by simp [wx, wx3, wx_len n l i]; omega
/-- the bytes of an entry lie there, marks behind -/
structure Lain (H : Heap) (n i : Nat) (e : Ent) : Prop where
  r : H (n + 3 + 4 * i) = some (.arr 2 1 ((e.row ++ marksE).map byteAV))
  q : H (n + 4 + 4 * i) = some (.arr 2 1 ((e.qual ++ marksE).map byteAV))
  v : H (n + 5 + 4 * i) = some (.arr 2 1 ((e.value ++ marksE).map byteAV))
theorem Lain.mono {H H' : Heap} {n i : Nat} {e : Ent} (h : Lain H n i e) (hH : ∀ k, n + 3 + 4 * i ≤ k → k ≤ n + 5 + 4 * i → H' k = H k) : Lain H' n i e :=
  ⟨(hH _ (by omega) (by omega)).trans h.r, (hH _ (by omega) (by omega)).trans h.q, (hH _ (by omega) (by omega)).trans h.v⟩
/-- the room -/
structure Laid (H : Heap) (n : Nat) (l : List Ent) : Prop where
  room : H n = some (.arr 0 2 [.agg [.osl (n + 1) (l.length + 1) 0 (l.length + 1), .osl (n + 2) l.length 0 (3 * l.length)]])
  ls : H (n + 1) = some (.arr (l.length + 1) 7 ((lxs n l l.length).map lentAV ++ [mkE (-9)]))
  ws : H (n + 2) = some (.arr l.length 1 (wx n l l.length))
  bs : ∀ j, j < l.length → Lain H n j (l.getD j default)

set_option maxHeartbeats 4000000 in
theorem c_law_laid (l : List Ent) (hl : l.length ≤ 100000000) (hf : ∀ e ∈ l, e.fits ∧ e.row.length ≤ 70000000000000 ∧ e.qual.length ≤ 70000000000000 ∧ e.value.length ≤ 70000000000000) (H : Heap) (n : Nat) :
    ACalls Tryz.prog 12 [entsAV l] H n fun res H' n' => res = .val (.loc n 0 0 0 []) ∧ n' = n + 3 + 4 * l.length ∧ Laid H' n l ∧ ∀ k, k < n → H' k = H k := by
  refine acalls_of_awp Tryz.func12 rfl Tryz.ntmps12 (congrArg Array.toList Tryz.results12) (by simp) ?_
  simp only [go_sem]
  refine awp_reg zs [0] fun K hK => ?_
  try simp only [go_sem, ↓reduceIte, Nat.reduceEqDiff, Nat.reduceLT, Nat.reduceSub, Nat.reduceAdd, Nat.reduceMul, Nat.add_assoc]
  repeat refine peel ?_
  refine hK _ _ _ ?_; clear hK K
  refine awp_reg zs [0, 3] fun K hK => ?_
  try simp only [go_sem, ↓reduceIte, Nat.reduceEqDiff, Nat.reduceLT, Nat.reduceSub, Nat.reduceAdd, Nat.reduceMul, Nat.add_assoc]
  repeat refine peel ?_
  refine hK _ _ _ ?_; clear hK K
  refine awp_seq_k fun K1 hK1 => ?_
  refine awp_adopt_obj n 7 (els' := [.agg [.osl (n + 1) 0 0 0, .nilsl]]) (Heap.put_same _ _ _) ⟨Adp.agg ⟨Adp.nilsl _, .refl _ _, trivial⟩, trivial⟩ ?_
  refine awp_adopt_obj n 1 (els' := [.agg [.osl (n + 1) 0 0 0, .osl (n + 2) 0 0 0]]) (Heap.put_same _ _ _) ⟨Adp.agg ⟨.refl _ _, Adp.nilsl _, trivial⟩, trivial⟩ ?_
  refine awp_reg zs [0, 3, 4] fun K hK => ?_
  try simp only [go_sem, ↓reduceIte, Nat.reduceEqDiff, Nat.reduceLT, Nat.reduceSub, Nat.reduceAdd, Nat.reduceMul, Nat.add_assoc]
  repeat refine peel ?_
  refine hK _ _ _ ?_; clear hK K
  refine awp_block ?_
  -- loop 0: head [0, 3, 4]
  refine awp_loop (fun T' H' n' => ∃ (i : Nat), i ≤ l.length ∧ T' = tl [(0, .sl 7 (l.map entAV)), (3, .loc n 0 0 0 []), (4, .int .i64 i)] ∧ n' = n + 3 + 4 * i ∧ H' n = some (.arr 0 2 [.agg [.osl (n + 1) i 0 (lxs n l i).length, .osl (n + 2) i 0 (wx n l i).length]]) ∧ H' (n + 1) = some (.arr i 7 ((lxs n l i).map lentAV)) ∧ H' (n + 2) = some (.arr i 1 (wx n l i)) ∧ (∀ j, j < i → Lain H' n j (l.getD j default)) ∧ (∀ k, k < n → H' k = H k)) (fun T' _ _ => l.length - iv (T' 4)) ?_ ?_
  ·skip
   refine ⟨0, Nat.zero_le _, rfl, rfl, ?_, ?_, ?_, fun j hj => absurd hj (by omega), ?_⟩
   · first | (simp [Heap.put, lxs, wx]; done) | (simp [Heap.put, lxs, wx]; rfl)
   · first | (simp [Heap.put]; done) | (simp [Heap.put]; rfl)
   · first | (simp [Heap.put]; done) | (simp [Heap.put]; rfl)
   · intro k hk; have h0 : k ≠ n := by omega
     have h1 : k ≠ n + 1 := by omega
     have h2 : k ≠ n + 2 := by omega
     simp [Heap.put, h0, h1, h2]
  intro T1 H1 n1
  rintro ⟨i, hi, rfl, hn, hHn, hHl, hHw, hbs, hrest⟩
  refine awp_seq_k fun K2 hK2 => ?_
  refine awp_reg zs [0, 3, 4, 14] fun K hK => ?_
  try simp only [go_sem, ↓reduceIte, Nat.reduceEqDiff, Nat.reduceLT, Nat.reduceSub, Nat.reduceAdd, Nat.reduceMul, Nat.add_assoc]
  repeat refine peel ?_
  refine hK _ _ _ ?_; clear hK K
  refine awp_cnd (fun hb => ?_) (fun hb => ?_)
  ·skip
   have hlt : i < l.length := by simpa using hb
   have hnth : nth (l.map entAV) i = entAV (l.getD i default) := nth_map entAV l i hlt
   have hfe := hf (l.getD i default) (by simp [List.getD, List.getElem?_eq_getElem hlt])
   have hl1 : lxs n l (i + 1) = lxs n l i ++ [lx n i (l.getD i default)] := rfl
   have hw1 : wx n l (i + 1) = wx n l i ++ wx3 n i (l.getD i default) := rfl
   have hll := lxs_len n l i
   have hwl := wx_len n l i
   generalize he : l.getD i default = e at *
   obtain ⟨hfi, hfr, hfq, hfv⟩ := hfe
   have k1 : n + 3 + 4 * i = n1 := hn.symm
   have k2' : n + 4 + 4 * i = n1 + 1 := by omega
   have k3' : n + 5 + 4 * i = n1 + 2 := by omega
   have qa : ∀ k, (n = n1 + k) = False := fun k => by simp; omega
   have qb : ∀ k, (n + 1 = n1 + k) = False := fun k => by simp; omega
   have qc : ∀ k, (n + 2 = n1 + k) = False := fun k => by simp; omega
   have qd : ∀ k, (n1 + k = n) = False := fun k => by simp; omega
   have qe : ∀ k, (n1 + k = n + 1) = False := fun k => by simp; omega
   have qf : ∀ k, (n1 + k = n + 2) = False := fun k => by simp; omega
   have qa0 : (n = n1) = False := by simp; omega
   have qb0 : (n + 1 = n1) = False := by simp; omega
   have qc0 : (n + 2 = n1) = False := by simp; omega
   have qd0 : (n1 = n) = False := by simp; omega
   have qe0 : (n1 = n + 1) = False := by simp; omega
   have qf0 : (n1 = n + 2) = False := by simp; omega
   refine awp_skip ?_
   try simp only [go_sem, ↓reduceIte, Nat.reduceEqDiff, Nat.reduceLT, Nat.reduceSub, Nat.reduceAdd, Nat.reduceMul, Nat.add_assoc]
   refine hK2 _ _ _ ?_
   first | clear hK2 K2 | skip
   refine awp_seq_k fun K3 hK3 => ?_
   refine awp_block ?_
   refine awp_reg zs [0, 3, 4, 5] fun K hK => ?_
   try simp only [go_sem, ↓reduceIte, Nat.reduceEqDiff, Nat.reduceLT, Nat.reduceSub, Nat.reduceAdd, Nat.reduceMul, Nat.add_assoc, Int.toNat_natCast, hnth]
   repeat (first | (refine And.intro ?_ ?_; · first | (simp; omega)) | refine peel ?_)
   refine callK_use Tryz.func33 rfl rfl rfl ((c_law_wide e.row hfr _ _)) ?_
   try simp only [go_sem, ↓reduceIte, Nat.reduceEqDiff, Nat.reduceLT, Nat.reduceSub, Nat.reduceAdd, Nat.reduceMul, Nat.add_assoc, Int.toNat_natCast, hnth]
   repeat (first | (refine And.intro ?_ ?_; · first | (simp; omega)) | refine peel ?_)
   refine hK _ _ _ ?_; clear hK K
   refine awp_reg zs [0, 3, 4, 5, 6] fun K hK => ?_
   try simp only [go_sem, ↓reduceIte, Nat.reduceEqDiff, Nat.reduceLT, Nat.reduceSub, Nat.reduceAdd, Nat.reduceMul, Nat.add_assoc, Int.toNat_natCast, hnth]
   repeat (first | (refine And.intro ?_ ?_; · first | (simp; omega)) | refine peel ?_)
   refine callK_use Tryz.func33 rfl rfl rfl ((c_law_wide e.qual hfq _ _)) ?_
   try simp only [go_sem, ↓reduceIte, Nat.reduceEqDiff, Nat.reduceLT, Nat.reduceSub, Nat.reduceAdd, Nat.reduceMul, Nat.add_assoc, Int.toNat_natCast, hnth]
   repeat (first | (refine And.intro ?_ ?_; · first | (simp; omega)) | refine peel ?_)
   refine hK _ _ _ ?_; clear hK K
   refine awp_reg zs [0, 3, 4, 5, 6, 7] fun K hK => ?_
   try simp only [go_sem, ↓reduceIte, Nat.reduceEqDiff, Nat.reduceLT, Nat.reduceSub, Nat.reduceAdd, Nat.reduceMul, Nat.add_assoc, Int.toNat_natCast, hnth]
   repeat (first | (refine And.intro ?_ ?_; · first | (simp; omega)) | refine peel ?_)
   refine callK_use Tryz.func33 rfl rfl rfl ((c_law_wide e.value hfv _ _)) ?_
   try simp only [go_sem, ↓reduceIte, Nat.reduceEqDiff, Nat.reduceLT, Nat.reduceSub, Nat.reduceAdd, Nat.reduceMul, Nat.add_assoc, Int.toNat_natCast, hnth]
   repeat (first | (refine And.intro ?_ ?_; · first | (simp; omega)) | refine peel ?_)
   refine hK _ _ _ ?_; clear hK K
   refine awp_reg zs [0, 3, 4, 5, 6, 7] fun K hK => ?_
   try simp only [go_sem, ↓reduceIte, Nat.reduceEqDiff, Nat.reduceLT, Nat.reduceSub, Nat.reduceAdd, Nat.reduceMul, Nat.add_assoc, hHn, hHw, qa, qb, qc, qd, qe, qf, qa0, qb0, qc0, qd0, qe0, qf0]
   repeat (first | (refine And.intro ?_ ?_; · first | exact ⟨rfl, by decide, by simp [AV.sz, AV.szs, AV.memOK]⟩ | (simp; omega) | exact ⟨by simp, .inr trivial, by simp; omega, by simp; omega⟩) | refine peel ?_)
   refine hK _ _ _ ?_; clear hK K
   refine awp_reg zs [0, 3, 4, 5, 6, 7, 8] fun K hK => ?_
   try simp only [go_sem, ↓reduceIte, Nat.reduceEqDiff, Nat.reduceLT, Nat.reduceSub, Nat.reduceAdd, Nat.reduceMul, Nat.add_assoc, Int.toNat_natCast, hnth]
   repeat (first | (refine And.intro ?_ ?_; · first | (simp; omega)) | refine peel ?_)
   refine hK _ _ _ ?_; clear hK K
   refine awp_reg zs [0, 3, 4, 6, 7, 8] fun K hK => ?_
   try simp only [go_sem, ↓reduceIte, Nat.reduceEqDiff, Nat.reduceLT, Nat.reduceSub, Nat.reduceAdd, Nat.reduceMul, Nat.add_assoc, Int.toNat_natCast, hnth, qa, qb, qc, qd, qe, qf, qa0, qb0, qc0, qd0, qe0, qf0, Option.getD_some, Option.getD_none, Int.toNat_zero, List.drop_zero, List.length_map]
   repeat (first | (refine And.intro ?_ ?_; · first | (intro m9 hm9; cases hm9) | (simp; omega)) | refine peel ?_)
   refine hK _ _ _ ?_; clear hK K
   refine awp_reg zs [0, 3, 4, 7, 8] fun K hK => ?_
   try simp only [go_sem, ↓reduceIte, Nat.reduceEqDiff, Nat.reduceLT, Nat.reduceSub, Nat.reduceAdd, Nat.reduceMul, Nat.add_assoc, Int.toNat_natCast, hnth, qa, qb, qc, qd, qe, qf, qa0, qb0, qc0, qd0, qe0, qf0, Option.getD_some, Option.getD_none, Int.toNat_zero, List.drop_zero, List.length_map]
   repeat (first | (refine And.intro ?_ ?_; · first | (intro m9 hm9; cases hm9) | (simp; omega)) | refine peel ?_)
   refine hK _ _ _ ?_; clear hK K
   refine awp_reg zs [0, 3, 4, 8] fun K hK => ?_
   try simp only [go_sem, ↓reduceIte, Nat.reduceEqDiff, Nat.reduceLT, Nat.reduceSub, Nat.reduceAdd, Nat.reduceMul, Nat.add_assoc, Int.toNat_natCast, hnth, qa, qb, qc, qd, qe, qf, qa0, qb0, qc0, qd0, qe0, qf0, Option.getD_some, Option.getD_none, Int.toNat_zero, List.drop_zero, List.length_map]
   repeat (first | (refine And.intro ?_ ?_; · first | (intro m9 hm9; cases hm9) | (simp; omega)) | refine peel ?_)
   refine hK _ _ _ ?_; clear hK K
   refine awp_drw1 rfl zs [0, 3, 4] [.m, .m, .q, .q, .q, .q, .q, .w [], .q, .q, .w []] (by kernel_rfl) (fun _ _ _ _ _ h => h) fun K hK => ?_
   try simp only [go_sem, ↓reduceIte, Nat.reduceEqDiff, Nat.reduceLT, Nat.reduceSub, Nat.reduceAdd, Nat.reduceMul, Nat.add_assoc, hHn, hHl, qa, qb, qc, qd, qe, qf, qa0, qb0, qc0, qd0, qe0, qf0]
   repeat (first | (refine And.intro ?_ ?_; · first | exact ⟨rfl, by decide, by simp [AV.sz, AV.szs, AV.memOK]⟩ | (simp; omega) | exact ⟨by simp, .inr trivial, by simp; omega, by simp; omega⟩) | refine peel ?_)
   refine hK _ _ _ ?_; clear hK K
   try simp only [go_sem, ↓reduceIte, Nat.reduceEqDiff, Nat.reduceLT, Nat.reduceSub, Nat.reduceAdd, Nat.reduceMul, Nat.add_assoc]
   refine hK3 _ _ _ ?_
   first | clear hK3 K3 | skip
   refine awp_reg1 zs [0, 3, 4] fun K hK => ?_
   try simp only [go_sem, ↓reduceIte, Nat.reduceEqDiff, Nat.reduceLT, Nat.reduceSub, Nat.reduceAdd, Nat.reduceMul, Nat.add_assoc]
   repeat refine peel ?_
   refine hK _ _ _ ?_; clear hK K
   try simp only [go_sem, ↓reduceIte, Nat.reduceEqDiff, Nat.reduceLT, Nat.reduceSub, Nat.reduceAdd, Nat.reduceMul, Nat.add_assoc]
   refine ⟨⟨i + 1, by omega, by rw [w1 (by omega)], by omega, ?_, ?_, ?_, ?_, ?_⟩, by rw [w1 (by omega)]; simp; omega⟩
   · rw [hl1, hw1]; simp [wx3]
   · rw [hl1, List.take_of_length_le (by simp), List.map_append]
     simp only [List.map_cons, List.map_nil, lx, lentAV, Lp.av, k1, k2', k3', Nat.sub_zero]
   · rw [if_neg (by omega), hw1, List.take_of_length_le (by simp)]
     simp only [wx3, k1, k2', k3']
   · intro j hj
     rcases Nat.lt_or_ge j i with hji | hji
     · exact (hbs j hji).mono fun k h1 h2 => by rw [Heap.put_ne _ _ (by omega), Heap.put_ne _ _ (by omega), Heap.put_ne _ _ (by omega), Heap.put_ne _ _ (by omega), Heap.put_ne _ _ (by omega), Heap.put_ne _ _ (by omega), Heap.put_ne _ _ (by omega), Heap.put_ne _ _ (by omega)]
     · obtain rfl : j = i := by omega
       rw [he]
       exact ⟨by rw [k1, Heap.put_ne _ _ (by omega), Heap.put_ne _ _ (by omega), Heap.put_ne _ _ (by omega), Heap.put_ne _ _ (by omega), Heap.put_ne _ _ (by omega), Heap.put_ne _ _ (by omega), Heap.put_ne _ _ (by omega), Heap.put_same], by rw [k2', Heap.put_ne _ _ (by omega), Heap.put_ne _ _ (by omega), Heap.put_ne _ _ (by omega), Heap.put_ne _ _ (by omega), Heap.put_ne _ _ (by omega), Heap.put_ne _ _ (by omega), Heap.put_same], by rw [k3', Heap.put_ne _ _ (by omega), Heap.put_ne _ _ (by omega), Heap.put_ne _ _ (by omega), Heap.put_ne _ _ (by omega), Heap.put_ne _ _ (by omega), Heap.put_same]⟩
   · intro k hk
     have g0 : k ≠ n := by omega
     have g1 : k ≠ n + 1 := by omega
     have g2 : k ≠ n + 2 := by omega
     have g3 : k ≠ n1 := by omega
     have g4 : k ≠ n1 + 1 := by omega
     have g5 : k ≠ n1 + 2 := by omega
     have g6 : k ≠ n1 + 3 := by omega
     simp only [g0, g1, g2, g3, g4, g5, g6, if_false]; exact hrest k hk
  ·skip
   have hge : i = l.length := by simp at hb; omega
   subst hge
   refine awp_exit ?_
   try simp only [go_sem, ↓reduceIte, Nat.reduceEqDiff, Nat.reduceLT, Nat.reduceSub, Nat.reduceAdd, Nat.reduceMul, Nat.add_assoc]
   refine hK1 _ _ _ ?_
   first | clear hK1 K1 | skip
   refine awp_reg zs [3] fun K hK => ?_
   try simp only [go_sem, ↓reduceIte, Nat.reduceEqDiff, Nat.reduceLT, Nat.reduceSub, Nat.reduceAdd, Nat.reduceMul, Nat.add_assoc, hHn, hHl]
   repeat (first | (refine And.intro ?_ ?_; · first | exact ⟨by simp, .inr trivial, by rw [lxs_len]; omega, by rw [lxs_len]; omega⟩ | exact ⟨rfl, by decide, by simp [AV.sz, AV.szs, AV.memOK]⟩ | (simp; omega) | exact ⟨by simp, .inr trivial, by simp; omega, by simp; omega⟩) | refine peel ?_)
   refine hK _ _ _ ?_; clear hK K
   refine awp_reg zs [2] fun K hK => ?_
   try simp only [go_sem, ↓reduceIte, Nat.reduceEqDiff, Nat.reduceLT, Nat.reduceSub, Nat.reduceAdd, Nat.reduceMul, Nat.add_assoc]
   repeat refine peel ?_
   refine hK _ _ _ ?_; clear hK K
   refine awp_ret ?_
   try simp only [go_sem, ↓reduceIte, Nat.reduceEqDiff, Nat.reduceLT, Nat.reduceSub, Nat.reduceAdd, Nat.reduceMul, Nat.add_assoc]
   refine ⟨by omega, ⟨?_, ?_, ?_, ?_⟩, ?_⟩
   · rw [Heap.put_same, lxs_len, wx_len]
   · rw [Heap.put_ne _ _ (by omega), Heap.put_same, List.take_of_length_le (by simp)]; rfl
   · rw [Heap.put_ne _ _ (by omega), Heap.put_ne _ _ (by omega)]; exact hHw
   · intro j hj
     exact (hbs j hj).mono fun k h1 h2 => by rw [Heap.put_ne _ _ (by omega), Heap.put_ne _ _ (by omega)]
   · intro k hk; have h0 : k ≠ n := by omega
     have h1 : k ≠ n + 1 := by omega
     simp [h0, h1, hrest k hk]
end Go.Proofs.YtijhkfhflpmajaaGreat


namespace Go.Proofs.YtijhkfhflpmajaaGreat
open Go Go.Sx Go.Rt Go.Proofs

theorem lxs_nth (n : Nat) (l : List Ent) : ∀ i, i ≤ l.length → ∀ x ∈ lxs n l i, ∃ j, j < i ∧ x = lx n j (l.getD j default)
  | 0, _, x, hx => by cases hx
  | i + 1, hi, x, hx => by
    rcases List.mem_append.1 hx with h | h
    · obtain ⟨j, hj, e⟩ := lxs_nth n l i (by omega) x h
      exact ⟨j, by omega, e⟩
    · exact ⟨i, by omega, by simpa using h⟩
theorem lxs_e (n : Nat) (l : List Ent) : ∀ i, i ≤ l.length → (lxs n l i).map (·.e) = l.take i
  | 0, _ => rfl
  | i + 1, hi => by
    rw [lxs, List.map_append, lxs_e n l i (by omega), List.take_add_one]
    simp [lx, List.getD, List.getElem?_eq_getElem (show i < l.length by omega)]
theorem lxs_all (n : Nat) (l : List Ent) : (lxs n l l.length).map (·.e) = l := by rw [lxs_e n l _ (Nat.le_refl _), List.take_length]
theorem wx_nth (n : Nat) (l : List Ent) : ∀ N i d, i < N → d < 3 → nth (wx n l N) (3 * i + d) = nth (wx3 n i (l.getD i default)) d
  | 0, i, d, h, _ => absurd h (by omega)
  | N + 1, i, d, h, hd => by
    have hl := wx_len n l N
    rw [wx]
    unfold nth
    rcases Nat.lt_or_ge i N with h9 | h9
    · have := wx_nth n l N i d h9 hd
      unfold nth at this
      rw [← this, List.getD, List.getElem?_append_left (by omega)]; rfl
    · obtain rfl : i = N := by omega
      rw [List.getD, List.getD, List.getElem?_append_right (by omega), hl]
      congr 2; omega
/-- where the list lies -/
def lp (n : Nat) (l : List Ent) : Lp := ⟨n + 1, l.length + 1, (lxs n l l.length).map lentAV ++ [mkE (-9)]⟩
theorem Laid.ok {H : Heap} {n m : Nat} {l : List Ent} (h : Laid H n l) (hm : n + 3 + 4 * l.length ≤ m) : LList H m (lp n l) (lxs n l l.length) := by
  refine ⟨by show n + 1 < m; omega, h.ls, by show _ ≤ (_ ++ _ : List AV).length; simp [lxs_len], ?_, ?_⟩
  · show List.take (lxs n l l.length).length ((lxs n l l.length).map lentAV ++ [mkE (-9)]) = _
    rw [List.take_append_of_le_length (by simp), List.take_of_length_le (by simp)]
  · intro x hx
    obtain ⟨j, hj, rfl⟩ := lxs_nth n l l.length (Nat.le_refl _) x hx
    obtain ⟨b1, b2, b3⟩ := h.bs j hj
    refine ⟨⟨⟨b1, by simp [lx], by simp [lx]⟩, by show n + 3 + 4 * j < m; omega⟩, ⟨⟨b2, by simp [lx], by simp [lx]⟩, by show n + 4 + 4 * j < m; omega⟩, ⟨⟨b3, by simp [lx], by simp [lx]⟩, by show n + 5 + 4 * j < m; omega⟩⟩
theorem l_law_kept {H : Heap} {k : Nat} {b : List UInt8} (hk : H k = some (.arr 2 1 ((b ++ marksE).map byteAV))) (hb : b.length ≤ 70000000000000) (n : Nat) : Ret Tryz.prog 53 [.osl k 2 0 (b.length + 5), bys b] H n (.bool true) H n := by
  have h := c_law_kept (b ++ marksE) b (by simp [marksE]; omega) (by omega) (fun _ => none) 0
  rw [keptB_true] at h
  refine Ret.lend trivial (.cons ?_ (.cons (.kl (kl_bys b 0)) .nil)) h
  exact .osl hk (Nat.zero_le _) (by simp [marksE]) (by rw [List.drop_zero, List.take_of_length_le (by simp [marksE])]; exact frzL_kl _ (kls0_bytes _ 0))

/-- whatever stands there, it has its shape -/
structure Shp (H : Heap) (n : Nat) (l : List Ent) : Prop where
  room : H n = some (.arr 0 2 [.agg [.osl (n + 1) (l.length + 1) 0 (l.length + 1), .osl (n + 2) l.length 0 (3 * l.length)]])
  ws : H (n + 2) = some (.arr l.length 1 (wx n l l.length))
  ls : ∃ els, H (n + 1) = some (.arr (l.length + 1) 7 els) ∧ els.length = l.length + 1 ∧ ∀ x ∈ els, x.sz = 7
  bs : ∀ t, t < 3 * l.length → ∃ k els, nth (wx n l l.length) t = .osl k 2 0 els.length ∧ n + 3 ≤ k ∧ H k = some (.arr 2 1 els) ∧ els.length ≤ 100000000000000 ∧ ∀ x ∈ els, x.sz = 1
theorem Shp.put {H : Heap} {n k : Nat} {l : List Ent} (h : Shp H n l) {els els' : List AV} (hk : H k = some (.arr 2 1 els)) (hn : n + 3 ≤ k) (hl : els'.length = els.length) (hs : ∀ x ∈ els', x.sz = 1) : Shp (H.put k (some (.arr 2 1 els'))) n l := by
  obtain ⟨h1, h2, ⟨e3, h3, h4, h5⟩, h6⟩ := h
  refine ⟨(Heap.put_ne _ _ (by omega)).trans h1, (Heap.put_ne _ _ (by omega)).trans h2, ⟨e3, (Heap.put_ne _ _ (by omega)).trans h3, h4, h5⟩, fun t ht => ?_⟩
  obtain ⟨k', es, g1, g2, g3, g5, g4⟩ := h6 t ht
  by_cases hkk : k' = k
  · subst hkk
    rw [g3] at hk
    injection hk with hk
    injection hk with _ _ hk
    subst hk
    exact ⟨k', els', by rw [g1, hl], g2, Heap.put_same _ _ _, by omega, hs⟩
  · exact ⟨k', es, g1, g2, (Heap.put_ne _ _ hkk).trans g3, g5, g4⟩
def olen : AV → Nat
  | .osl _ _ _ len => len
  | _ => 0
end Go.Proofs.YtijhkfhflpmajaaGreat


namespace Go.Proofs.YtijhkfhflpmajaaGreat
open Go Go.Sx Go.Rt Go.Proofs

theorem badsC_rChk : ∀ (l : List Ent), badsC l = rChk (-1) l
  | [] => rfl
  | e :: l => by
    rw [badsC, rChk, badsC_rChk l]
    simp
theorem sort_ref (l : List Ent) : sortE l = rSortE l := by
  unfold sortE rSortE rChecked
  rw [badsC_rChk]
  by_cases h : rChk (-1) l = 0
  · simp only [h, ne_eq, not_true_eq_false, if_false]
    rw [sorted_rOrd]
    split <;> simp
  · simp only [ne_eq, h, not_false_eq_true, if_true]
theorem rOrd_len (l : List Ent) : (rOrd l).length ≤ l.length := by unfold rOrd; simpa using (rOrd_ok2 l []).1
theorem rVisible_len (s : List Fml) (clock : Int) (m : List Ent) : (rVisible s clock m).length ≤ m.length := by unfold rVisible; simpa using (rVis_sub s clock m m []).1
theorem rRead_len (t n : Int) (v : List Ent) : (rRead t n v).length ≤ v.length := by
  have key : ∀ (l r : List Ent), (l.foldl (rReadS t n) r).length ≤ r.length + l.length := by
    intro l
    induction l with
    | nil => intro r; simp
    | cons a l ih =>
      intro r
      have h : (rReadS t n r a).length ≤ r.length + 1 := by unfold rReadS; split <;> simp
      have := ih (rReadS t n r a)
      rw [List.foldl_cons, List.length_cons]; omega
  unfold rRead; simpa using key v []
theorem rSquash_len (s : List Fml) (clock : Int) (mj : Bool) (low : Int) (m : List Ent) : (rSquash s clock mj low m).length ≤ m.length := by
  have key : ∀ (l r : List Ent), (l.foldl (rSqS s clock mj low m) r).length ≤ r.length + l.length := by
    intro l
    induction l with
    | nil => intro r; simp
    | cons a l ih =>
      intro r
      have h : (rSqS s clock mj low m r a).length ≤ r.length + 1 := by unfold rSqS; split <;> simp
      have := ih (rSqS s clock mj low m r a)
      rw [List.foldl_cons, List.length_cons]; omega
  unfold rSquash; simpa using key m []
theorem rSortE_len (l : List Ent) : (rSortE l).1.length ≤ l.length := by
  have := rOrd_len l
  unfold rSortE; split <;> simp; omega
theorem rVisE_len (s : List Fml) (clock : Int) (l : List Ent) : (rVisE s clock l).1.length ≤ l.length := by
  have h1 := rOrd_len l
  have h2 := rVisible_len s clock (rOrd l)
  unfold rVisE; split <;> simp; omega
theorem rReadE_len (s : List Fml) (clock t n : Int) (l : List Ent) : (rReadE s clock t n l).1.length ≤ l.length := by
  have h1 := rOrd_len l
  have h2 := rVisible_len s clock (rOrd l)
  have h3 := rRead_len t n (rVisible s clock (rOrd l))
  unfold rReadE; split <;> simp; omega
theorem rSquashE_len (s : List Fml) (clock : Int) (mj : Bool) (low : Int) (l : List Ent) : (rSquashE s clock mj low l).1.length ≤ l.length := by
  have h1 := rOrd_len l
  have h2 := rSquash_len s clock mj low (rOrd l)
  unfold rSquashE; split <;> simp; omega

structure AskE where
  kind : Int
  s : List Fml
  clock : Int
  t : Int
  n : Int
  major : Bool
  l : List Ent
  deriving Inhabited
def askAV (o : AskE) : AV := .agg [.int .i64 o.kind, schAV o.s, .int .i64 o.clock, .int .i64 o.t, .int .i64 o.n, .bool o.major, entsAV o.l]
def asksAV (l : List AskE) : AV := .sl 7 (l.map askAV)
attribute [go_sem] askAV asksAV
/-- an ask of a size that may be -/
structure AskE.ok (o : AskE) : Prop where
  len : o.l.length ≤ 1048576
  fits : ∀ e ∈ o.l, e.row.length ≤ 1048576 ∧ e.qual.length ≤ 1048576 ∧ e.value.length ≤ 1048576
theorem AskE.ok.f {o : AskE} (h : o.ok) : ∀ e ∈ o.l, e.fits := fun e he => by have := h.fits e he; exact ⟨by omega, by omega, by omega⟩

section
variable {H : Heap} {n0 m : Nat} {l : List Ent} (hL : Laid H n0 l) (hm : n0 + 3 + 4 * l.length ≤ m) (hl : l.length ≤ 1048576)
include hL hm hl
theorem a_retain_Sort : Ret Tryz.prog 14 [.osl (n0 + 1) (l.length + 1) 0 l.length] H m (.tup [entsAV (rSortE l).1, .int .i64 (rSortE l).2]) H m := by
  have h := l_retain_Sort (lp n0 l) (lxs n0 l l.length) (by rw [lxs_len]; omega) H m (hL.ok hm)
  rw [lxs_all, lxs_len, sort_ref] at h; exact h
theorem a_retain_Vis (s : List Fml) (clock : Int) : Ret Tryz.prog 18 [schAV s, .int .i64 clock, .osl (n0 + 1) (l.length + 1) 0 l.length] H m (.tup [entsAV (rVisE s clock l).1, .int .i64 (rVisE s clock l).2]) H m := by
  have h := l_retain_Vis (lp n0 l) s clock (lxs n0 l l.length) (by rw [lxs_len]; omega) H m (hL.ok hm)
  rw [lxs_all, lxs_len, vis_ref] at h; exact h
theorem a_retain_Read (s : List Fml) (clock t vn : Int) : Ret Tryz.prog 20 [schAV s, .int .i64 clock, .int .i64 t, .int .i64 vn, .osl (n0 + 1) (l.length + 1) 0 l.length] H m (.tup [entsAV (rReadE s clock t vn l).1, .int .i64 (rReadE s clock t vn l).2]) H m := by
  have h := l_retain_Read (lp n0 l) s clock t vn (lxs n0 l l.length) (by rw [lxs_len]; omega) H m (hL.ok hm)
  rw [lxs_all, lxs_len, read_ref] at h; exact h
theorem a_retain_Squash (s : List Fml) (clock low : Int) (mj : Bool) : Ret Tryz.prog 22 [schAV s, .int .i64 clock, .bool mj, .int .i64 low, .osl (n0 + 1) (l.length + 1) 0 l.length] H m (.tup [entsAV (rSquashE s clock mj low l).1, .int .i64 (rSquashE s clock mj low l).2]) H m := by
  have h := l_retain_Squash (lp n0 l) s clock low mj (lxs n0 l l.length) (by rw [lxs_len]; omega) H m (hL.ok hm)
  rw [lxs_all, lxs_len, squash_ref] at h; exact h
theorem a_retain_Top (s : List Fml) (clock : Int) : Ret Tryz.prog 24 [schAV s, .int .i64 clock, .osl (n0 + 1) (l.length + 1) 0 l.length] H m (.tup [.int .i64 (rTopE s clock l).1, .int .i64 (rTopE s clock l).2]) H m := by
  have h := l_retain_Top (lp n0 l) s clock (lxs n0 l l.length) (by rw [lxs_len]; omega) H m (hL.ok hm)
  rw [lxs_all, lxs_len, top_ref] at h; exact h
end
theorem a_ref3_SameAll (a : List Ent) (ha : a.length ≤ 1048576) (H : Heap) (n : Nat) : Ret Tryz.prog 17 [entsAV a, entsAV a] H n (.bool true) H n := by
  have h := c_ref3_SameAll a a (by omega) H n
  rw [show decide (a = a) = true by simp] at h
  exact h

end Go.Proofs.YtijhkfhflpmajaaGreat


namespace Go.Proofs.YtijhkfhflpmajaaGreat
open Go Go.Sx Go.Rt Go.Proofs

end Go.Proofs.YtijhkfhflpmajaaGreat


namespace Go.Proofs.YtijhkfhflpmajaaGreat
open Go Go.Sx Go.Rt Go.Proofs

/-! a place -/
def spotI (i : Int) (n : Nat) : Int := if i.tmod n < 0 then i.tmod n + n else i.tmod n
def spotN (i : Int) (n : Nat) : Nat := (spotI i n).toNat
theorem spotI_in (i : Int) {n : Nat} (h : 0 < n) : 0 ≤ spotI i n ∧ spotI i n < n ∧ -(n : Int) < i.tmod n := by
  have h1 := Int.tmod_lt_of_pos i (show (0 : Int) < n by omega)
  have h2 := Int.lt_tmod_of_pos i (show (0 : Int) < n by omega)
  unfold spotI
  split <;> omega
theorem spotN_lt (i : Int) {n : Nat} (h : 0 < n) : spotN i n < n := by have := spotI_in i h; unfold spotN; omega
theorem c_law_spot (i : Int) (m : Nat) (h0 : 0 < m) (hm : m ≤ 4611686018427387904) (H : Heap) (n : Nat) : Ret Tryz.prog 54 [.int .i64 i, .int .i64 m] H n (.int .i64 (spotN i m)) H n := by
  obtain ⟨s1, s2, s3⟩ := spotI_in i h0
  have hs : ((spotN i m : Nat) : Int) = spotI i m := by unfold spotN; omega
  have hwr : i.tmod m < 0 → IntKind.i64.wrap (i.tmod m + m) = i.tmod m + m := fun h => w64 (by omega) (by omega)
  refine acalls_of_awp Tryz.func54 rfl Tryz.ntmps54 (congrArg Array.toList Tryz.results54) (by simp) ?_
  simp only [go_sem]
  refine awp_rq zs [0, 1] ?_
  refine awp_reg zs [1, 5] fun K hK => ?_
  try simp only [go_sem, ↓reduceIte, Nat.reduceEqDiff, Nat.reduceLT, Nat.reduceSub, Nat.reduceAdd, Nat.reduceMul]
  repeat (first | (refine And.intro ?_ ?_; · first | (simp; omega) | exact ⟨rfl, by omega⟩) | refine peel ?_)
  refine hK _ _ _ ?_; clear hK K
  refine awp_seq_k fun K1 hK1 => ?_
  refine awp_rq zs [1, 5, 10] ?_
  refine awp_cnd (fun hb => ?_) (fun hb => ?_)
  ·skip
   have h10 : i.tmod m < 0 := by simpa using hb
   have hend : IntKind.i64.wrap (i.tmod m + m) = ((spotN i m : Nat) : Int) := by rw [hs, hwr h10, spotI, if_pos h10]
   refine awp_reg1 zs [5] fun K hK => ?_
   try simp only [go_sem, ↓reduceIte, Nat.reduceEqDiff, Nat.reduceLT, Nat.reduceSub, Nat.reduceAdd, Nat.reduceMul]
   repeat refine peel ?_
   refine hK _ _ _ ?_; clear hK K
   try simp only [go_sem, ↓reduceIte, Nat.reduceEqDiff, Nat.reduceLT, Nat.reduceSub, Nat.reduceAdd, Nat.reduceMul]
   refine hK1 _ _ _ ?_
   first | clear hK1 K1 | skip
   refine awp_rq zs [4] ?_
   refine awp_ret ?_
   try simp only [go_sem, ↓reduceIte, Nat.reduceEqDiff, Nat.reduceLT, Nat.reduceSub, Nat.reduceAdd, Nat.reduceMul]
   rw [hend]
  ·skip
   have h10 : ¬ i.tmod m < 0 := by simpa using hb
   have hend : i.tmod m = ((spotN i m : Nat) : Int) := by rw [hs, spotI, if_neg h10]
   refine awp_skip ?_
   try simp only [go_sem, ↓reduceIte, Nat.reduceEqDiff, Nat.reduceLT, Nat.reduceSub, Nat.reduceAdd, Nat.reduceMul]
   refine hK1 _ _ _ ?_
   first | clear hK1 K1 | skip
   refine awp_rq zs [4] ?_
   refine awp_ret ?_
   try simp only [go_sem, ↓reduceIte, Nat.reduceEqDiff, Nat.reduceLT, Nat.reduceSub, Nat.reduceAdd, Nat.reduceMul]
   rw [hend]

/-! one byte turned -/
def xorB (x : UInt8) : UInt8 := UInt8.ofNat (intBits .xor .u8 x.toNat 1).toNat
theorem xorB_av (x : UInt8) : AV.int .u8 (intBits .xor .u8 x.toNat 1) = byteAV (xorB x) := by
  have h : 0 ≤ intBits .xor .u8 x.toNat 1 ∧ intBits .xor .u8 x.toNat 1 ≤ 255 := by
    show 0 ≤ IntKind.u8.wrap _ ∧ IntKind.u8.wrap _ ≤ 255
    rw [IntKind.wrap_u8]; omega
  unfold byteAV xorB
  congr 1
  simp; omega
def putB (b : List UInt8) (at' : Int) : List UInt8 := b.set (spotN at' b.length) (xorB (b.getD (spotN at' b.length) default))
theorem putB_len (b : List UInt8) (a : Int) : (putB b a).length = b.length := by simp [putB]
theorem c_law_put (k : Nat) (b : List UInt8) (hb9 : b.length ≤ 4611686018427387904) (a : Int) (H : Heap) (n : Nat) (hk : H k = some (.arr 2 1 ((b ++ marksE).map byteAV))) :
    ACalls Tryz.prog 55 [.osl k 2 0 b.length, .int .i64 a] H n fun res H' n' => res = .val (.tup []) ∧ n' = n ∧ H' k = some (.arr 2 1 ((putB b a ++ marksE).map byteAV)) ∧ ∀ j, j ≠ k → H' j = H j := by
  refine acalls_of_awp Tryz.func55 rfl Tryz.ntmps55 (congrArg Array.toList Tryz.results55) (by simp) ?_
  simp only [go_sem]
  refine awp_rq zs [0, 1, 7] ?_
  refine awp_cnd (fun hb => ?_) (fun hb => ?_)
  ·skip
   have h0 : 0 < b.length := by simpa using hb
   have hsl := spotN_lt a h0
   have hnth : nth ((b ++ marksE).map byteAV) (spotN a b.length) = byteAV (b.getD (spotN a b.length) default) := by
     rw [nth_map byteAV _ _ (by simp; omega)]
     congr 1; simp [List.getD, List.getElem?_append_left hsl]
   refine awp_reg zs [0, 4] fun K hK => ?_
   try simp only [go_sem, ↓reduceIte, Nat.reduceEqDiff, Nat.reduceLT, Nat.reduceSub, Nat.reduceAdd, Nat.reduceMul]
   repeat refine peel ?_
   refine callK_use Tryz.func54 rfl rfl rfl ((c_law_spot a b.length h0 hb9 _ _)) ?_
   try simp only [go_sem, ↓reduceIte, Nat.reduceEqDiff, Nat.reduceLT, Nat.reduceSub, Nat.reduceAdd, Nat.reduceMul]
   repeat refine peel ?_
   refine hK _ _ _ ?_; clear hK K
   refine awp_reg1 zs [] fun K hK => ?_
   try simp only [go_sem, ↓reduceIte, Nat.reduceEqDiff, Nat.reduceLT, Nat.reduceSub, Nat.reduceAdd, Nat.reduceMul, Int.toNat_natCast, hk, hnth, xorB_av]
   repeat (first | (refine And.intro ?_ ?_; · first | (simp; omega) | exact ⟨by simp; omega, rfl⟩) | refine peel ?_)
   refine hK _ _ _ ?_; clear hK K
   try simp only [go_sem, ↓reduceIte, Nat.reduceEqDiff, Nat.reduceLT, Nat.reduceSub, Nat.reduceAdd, Nat.reduceMul]
   try simp only [go_sem, ↓reduceIte, Nat.reduceEqDiff, Nat.reduceLT, Nat.reduceSub, Nat.reduceAdd, Nat.reduceMul]
   by_cases h9 : b = []
   · first | (subst h9; exact hk) | (subst h9; simp at h0)
   first
   | (refine ⟨?_, fun j hj => by rw [if_neg hj]⟩
      rw [putB, show b.set (spotN a b.length) (xorB (b.getD (spotN a b.length) default)) ++ marksE = (b ++ marksE).set (spotN a b.length) (xorB (b.getD (spotN a b.length) default)) from (List.set_append_left _ _ hsl).symm, List.map_set]; rfl)
   | exact absurd h0 h9
  ·skip
   have h0 : b = [] := by simp at hb; exact hb
   refine awp_skip ?_
   try simp only [go_sem, ↓reduceIte, Nat.reduceEqDiff, Nat.reduceLT, Nat.reduceSub, Nat.reduceAdd, Nat.reduceMul]
   by_cases h9 : b = []
   · first | (subst h9; exact hk) | (subst h9; simp at h0)
   first
   | (refine ⟨?_, fun j hj => by rw [if_neg hj]⟩
      rw [putB, show b.set (spotN a b.length) (xorB (b.getD (spotN a b.length) default)) ++ marksE = (b ++ marksE).set (spotN a b.length) (xorB (b.getD (spotN a b.length) default)) from (List.set_append_left _ _ hsl).symm, List.map_set]; rfl)
   | exact absurd h0 h9
end Go.Proofs.YtijhkfhflpmajaaGreat

