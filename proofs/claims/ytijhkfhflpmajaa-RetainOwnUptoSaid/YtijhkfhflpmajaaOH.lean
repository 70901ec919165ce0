/- Own layer: the walks through the small functions of the laws. Of the program; no condition. -/
import Derived.Test.YtijhkfhflpmajaaOG
import Derived.Test.YtijhkfhflpmajaaOF
import Derived.Test.YtijhkfhflpmajaaOD
set_option linter.unusedSimpArgs false
set_option linter.unusedVariables false
namespace Go.Proofs.Ytijhkfhflpmajaa
open Go Go.Sx Go.Rt Go.Proofs

theorem c_law_num (e : Int) (H : Heap) (n : Nat) : Ret Try.prog 16 [.int .i64 e] H n (.int .i64 e) H n := by
  refine acalls_of_awp Try.func16 rfl Try.ntmps16 (congrArg Array.toList Try.results16) (by simp) ?_
  simp only [go_sem]
  refine awp_rq zs [0] ?_
  refine awp_rq zs [2] ?_
  refine awp_ret ?_
  try simp only [go_sem, ↓reduceIte, Nat.reduceEqDiff, Nat.reduceLT, Nat.reduceSub, Nat.reduceAdd, Nat.reduceMul]

theorem c_ref3_Alike (a b : List UInt8) (H : Heap) (n : Nat) : Ret Try.prog 20 [bys a, bys b] H n (.bool (a == b)) H n := by
  refine acalls_of_awp Try.func20 rfl Try.ntmps20 (congrArg Array.toList Try.results20) (by simp) ?_
  simp only [go_sem]
  refine awp_rq zs [0, 1] ?_
  refine awp_reg zs [4] fun K hK => ?_
  try simp only [go_sem, ↓reduceIte, Nat.reduceEqDiff, Nat.reduceLT, Nat.reduceSub, Nat.reduceAdd, Nat.reduceMul, map_byteOf]
  repeat (first | (refine And.intro ?_ ?_; · first | exact bys_isByte _) | refine peel ?_)
  refine hK _ _ _ ?_; clear hK K
  refine awp_ret ?_
  try simp only [go_sem, ↓reduceIte, Nat.reduceEqDiff, Nat.reduceLT, Nat.reduceSub, Nat.reduceAdd, Nat.reduceMul]

theorem c_ref3_Same (a b : Ent) (H : Heap) (n : Nat) : Ret Try.prog 41 [entAV a, entAV b] H n (.bool (sameE a b)) H n := by
  refine Ret.fin ?_
  refine acalls_of_awp Try.func41 rfl Try.ntmps41 (congrArg Array.toList Try.results41) (by simp) ?_
  simp only [go_sem]
  refine awp_rq zs [2, 3] ?_
  refine awp_seq_k fun K1 hK1 => ?_
  refine awp_rq zs [2, 3, 30] ?_
  refine awp_cnd (fun hb => ?_) (fun hb => ?_)
  ·skip
   refine awp_rq zs [4] ?_
   refine awp_ret ?_
   try simp only [go_sem, ↓reduceIte, Nat.reduceEqDiff, Nat.reduceLT, Nat.reduceSub, Nat.reduceAdd, Nat.reduceMul]
   refine ⟨_, rfl, ?_, Frz.eq ?_ trivial⟩
   · intro k hk; have h0 : k ≠ n := by omega
     have h1 : ∀ j, k ≠ n + j := fun j => by omega
     simp [Heap.put, h0, h1]
   rw [sameE_eq]; simp only [bne] at hb; congr 1
   generalize (a.fam == b.fam) = p1 at *
   generalize (a.ts == b.ts) = p2 at *
   generalize (a.seq == b.seq) = p3 at *
   generalize (a.kind == b.kind) = p4 at *
   generalize (a.row == b.row) = p5 at *
   generalize (a.qual == b.qual) = p6 at *
   generalize (a.value == b.value) = p7 at *
   revert hb; revert p1 p2 p3 p4 p5 p6 p7; decide
  ·skip
   refine awp_skip ?_
   try simp only [go_sem, ↓reduceIte, Nat.reduceEqDiff, Nat.reduceLT, Nat.reduceSub, Nat.reduceAdd, Nat.reduceMul]
   refine hK1 _ _ _ ?_
   first | clear hK1 K1 | skip
   refine awp_reg zs [4] fun K hK => ?_
   try simp only [go_sem, ↓reduceIte, Nat.reduceEqDiff, Nat.reduceLT, Nat.reduceSub, Nat.reduceAdd, Nat.reduceMul]
   repeat refine peel ?_
   refine callK_use Try.func20 rfl rfl rfl ((c_ref3_Alike a.row b.row _ _)) ?_
   try simp only [go_sem, ↓reduceIte, Nat.reduceEqDiff, Nat.reduceLT, Nat.reduceSub, Nat.reduceAdd, Nat.reduceMul]
   repeat refine peel ?_
   refine callG_use Try.func20 rfl rfl rfl (fun _ => (c_ref3_Alike a.qual b.qual _ _)) ?_
   try simp only [go_sem, ↓reduceIte, Nat.reduceEqDiff, Nat.reduceLT, Nat.reduceSub, Nat.reduceAdd, Nat.reduceMul]
   repeat refine peel ?_
   refine callG_use Try.func20 rfl rfl rfl (fun _ => (c_ref3_Alike a.value b.value _ _)) ?_
   try simp only [go_sem, ↓reduceIte, Nat.reduceEqDiff, Nat.reduceLT, Nat.reduceSub, Nat.reduceAdd, Nat.reduceMul]
   repeat refine peel ?_
   refine hK _ _ _ ?_; clear hK K
   refine awp_ret ?_
   try simp only [go_sem, ↓reduceIte, Nat.reduceEqDiff, Nat.reduceLT, Nat.reduceSub, Nat.reduceAdd, Nat.reduceMul]
   refine ⟨_, rfl, ?_, Frz.eq ?_ trivial⟩
   · intro k hk; have h0 : k ≠ n := by omega
     have h1 : ∀ j, k ≠ n + j := fun j => by omega
     simp [Heap.put, h0, h1]
   rw [sameE_eq]; simp only [bne] at hb; congr 1
   generalize (a.fam == b.fam) = p1 at *
   generalize (a.ts == b.ts) = p2 at *
   generalize (a.seq == b.seq) = p3 at *
   generalize (a.kind == b.kind) = p4 at *
   generalize (a.row == b.row) = p5 at *
   generalize (a.qual == b.qual) = p6 at *
   generalize (a.value == b.value) = p7 at *
   revert hb; revert p1 p2 p3 p4 p5 p6 p7; decide

def sameAllE (a b : List Ent) : Bool := decide (a = b)
theorem c_ref3_SameAll (a b : List Ent) (hl : a.length < 4611686018427387904) (H : Heap) (n : Nat) : Ret Try.prog 18 [entsAV a, entsAV b] H n (.bool (decide (a = b))) H n := by
  refine acalls_of_awp Try.func18 rfl Try.ntmps18 (congrArg Array.toList Try.results18) (by simp) ?_
  simp only [go_sem]
  refine awp_rq zs [0, 1] ?_
  refine awp_seq_k fun K1 hK1 => ?_
  refine awp_rq zs [0, 1, 11] ?_
  refine awp_cnd (fun hb => ?_) (fun hb => ?_)
  ·skip
   have hne : a.length ≠ b.length := by simp at hb; exact fun h => hb (by rw [h])
   refine awp_rq zs [4] ?_
   refine awp_ret ?_
   try simp only [go_sem, ↓reduceIte, Nat.reduceEqDiff, Nat.reduceLT, Nat.reduceSub, Nat.reduceAdd, Nat.reduceMul]
   first
   | (have h9 : ¬ a = b := fun h => hne (by rw [h])
      simp [h9])
   | (rw [← hd]; simp [hxy])
   | (rw [← hd, hge, hel]; simp [← hel])
  ·skip
   have hel : a.length = b.length := by simp at hb; exact Int.ofNat_inj.1 hb
   refine awp_skip ?_
   try simp only [go_sem, ↓reduceIte, Nat.reduceEqDiff, Nat.reduceLT, Nat.reduceSub, Nat.reduceAdd, Nat.reduceMul]
   refine hK1 _ _ _ ?_
   first | clear hK1 K1 | skip
   refine awp_seq_k fun K2 hK2 => ?_
   refine awp_rq zs [0, 1, 5] ?_
   refine awp_block ?_
   -- loop 0: head [0, 1, 5]
   refine awp_loop (fun T' H' n' => ∃ i : Nat, i ≤ a.length ∧ T' = tl [(0, .sl 7 (a.map entAV)), (1, .sl 7 (b.map entAV)), (5, .int .i64 i)] ∧ H' = H ∧ n' = n ∧ (decide (a.drop i = b.drop i)) = decide (a = b)) (fun T' _ _ => a.length - iv (T' 5)) ?_ ?_
   ·skip
    exact ⟨0, Nat.zero_le _, rfl, rfl, rfl, rfl⟩
   intro T1 H1 n1
   rintro ⟨i, hi, rfl, rfl, rfl, hd⟩
   refine awp_seq_k fun K3 hK3 => ?_
   refine awp_rq zs [0, 1, 5, 15] ?_
   refine awp_cnd (fun hb => ?_) (fun hb => ?_)
   ·skip
    have hlt : i < a.length := by simpa using hb
    have hlb : i < b.length := by omega
    rw [drop_cons a i hlt, drop_cons b i hlb] at hd
    have hn1 : nth (a.map entAV) i = entAV (a.getD i default) := nth_map entAV a i hlt
    have hn2 : nth (b.map entAV) i = entAV (b.getD i default) := nth_map entAV b i hlb
    generalize a.getD i default = x at *
    generalize b.getD i default = y at *
    refine awp_skip ?_
    try simp only [go_sem, ↓reduceIte, Nat.reduceEqDiff, Nat.reduceLT, Nat.reduceSub, Nat.reduceAdd, Nat.reduceMul]
    refine hK3 _ _ _ ?_
    first | clear hK3 K3 | skip
    refine awp_seq_k fun K4 hK4 => ?_
    refine awp_block ?_
    refine awp_drw rfl zs [0, 1, 5, 6] [.m, .m, .q, .q, .m, .m, .q, .q, .c, .q] (by kernel_rfl) (fun _ _ _ _ _ h => h) fun K hK => ?_
    try simp only [go_sem, ↓reduceIte, Nat.reduceEqDiff, Nat.reduceLT, Nat.reduceSub, Nat.reduceAdd, Nat.reduceMul, Int.toNat_natCast, hn1, hn2]
    repeat refine peel ?_
    refine callQG_use Try.func41 rfl rfl rfl (fun _ n => (c_ref3_Same x y _ _)) ?_
    try simp only [go_sem, ↓reduceIte, Nat.reduceEqDiff, Nat.reduceLT, Nat.reduceSub, Nat.reduceAdd, Nat.reduceMul, Int.toNat_natCast, hn1, hn2]
    repeat refine peel ?_
    refine hK _ _ _ ?_; clear hK K
    refine awp_rq zs [0, 1, 5, 28] ?_
    refine awp_cnd (fun hb => ?_) (fun hb => ?_)
    ·skip
     have hxy : x ≠ y := by simpa [sameE] using hb
     refine awp_rq zs [4] ?_
     refine awp_ret ?_
     try simp only [go_sem, ↓reduceIte, Nat.reduceEqDiff, Nat.reduceLT, Nat.reduceSub, Nat.reduceAdd, Nat.reduceMul]
     first
     | (have h9 : ¬ a = b := fun h => hne (by rw [h])
        simp [h9])
     | (rw [← hd]; simp [hxy])
     | (rw [← hd, hge, hel]; simp [← hel])
    ·skip
     have hxy : x = y := by simpa [sameE] using hb
     refine awp_skip ?_
     try simp only [go_sem, ↓reduceIte, Nat.reduceEqDiff, Nat.reduceLT, Nat.reduceSub, Nat.reduceAdd, Nat.reduceMul]
     refine hK4 _ _ _ ?_
     first | clear hK4 K4 | skip
     refine awp_reg1 zs [0, 1, 5] fun K hK => ?_
     try simp only [go_sem, ↓reduceIte, Nat.reduceEqDiff, Nat.reduceLT, Nat.reduceSub, Nat.reduceAdd, Nat.reduceMul]
     repeat refine peel ?_
     refine hK _ _ _ ?_; clear hK K
     try simp only [go_sem, ↓reduceIte, Nat.reduceEqDiff, Nat.reduceLT, Nat.reduceSub, Nat.reduceAdd, Nat.reduceMul]
     refine ⟨⟨i + 1, by omega, by rw [w1 (by omega)], by rw [← hd, hxy]; simp⟩, by rw [w1 (by omega)]; simp; omega⟩
   ·skip
    have hge : i = a.length := by simp at hb; omega
    refine awp_exit ?_
    try simp only [go_sem, ↓reduceIte, Nat.reduceEqDiff, Nat.reduceLT, Nat.reduceSub, Nat.reduceAdd, Nat.reduceMul]
    refine hK2 _ _ _ ?_
    first | clear hK2 K2 | skip
    refine awp_rq zs [4] ?_
    refine awp_ret ?_
    try simp only [go_sem, ↓reduceIte, Nat.reduceEqDiff, Nat.reduceLT, Nat.reduceSub, Nat.reduceAdd, Nat.reduceMul]
    first
    | (have h9 : ¬ a = b := fun h => hne (by rw [h])
       simp [h9])
    | (rw [← hd]; simp [hxy])
    | (rw [← hd, hge, hel]; simp [← hel])

theorem c_ref3_Copied (b : List UInt8) (hb : b.length ≤ 140737488355328) (H : Heap) (n : Nat) : Ret Try.prog 54 [bys b] H n (bys b) H n := by
  refine acalls_of_awp Try.func54 rfl Try.ntmps54 (congrArg Array.toList Try.results54) (by simp) ?_
  simp only [go_sem]
  refine awp_rq zs [0] ?_
  refine awp_rq zs [0, 3] ?_
  refine awp_reg zs [2] fun K hK => ?_
  try simp only [go_sem, ↓reduceIte, Nat.reduceEqDiff, Nat.reduceLT, Nat.reduceSub, Nat.reduceAdd, Nat.reduceMul]
  repeat (first | (refine And.intro ?_ ?_; · first | (simp; omega) | exact ⟨.inr trivial, by simp; omega, by simp; omega⟩) | refine peel ?_)
  refine hK _ _ _ ?_; clear hK K
  refine awp_ret ?_
  try simp only [go_sem, ↓reduceIte, Nat.reduceEqDiff, Nat.reduceLT, Nat.reduceSub, Nat.reduceAdd, Nat.reduceMul]

theorem c_ref3_Clone (e : Ent) (he : e.fits) (H : Heap) (n : Nat) : Ret Try.prog 33 [entAV e] H n (entAV e) H n := by
  obtain ⟨h1, h2, h3⟩ := he
  refine Ret.fin ?_
  refine acalls_of_awp Try.func33 rfl Try.ntmps33 (congrArg Array.toList Try.results33) (by simp) ?_
  simp only [go_sem]
  refine awp_rq zs [1, 2] ?_
  refine awp_reg zs [1, 2] fun K hK => ?_
  try simp only [go_sem, ↓reduceIte, Nat.reduceEqDiff, Nat.reduceLT, Nat.reduceSub, Nat.reduceAdd, Nat.reduceMul]
  repeat refine peel ?_
  refine callK_use Try.func54 rfl rfl rfl ((c_ref3_Copied e.row h1 _ _)) ?_
  try simp only [go_sem, ↓reduceIte, Nat.reduceEqDiff, Nat.reduceLT, Nat.reduceSub, Nat.reduceAdd, Nat.reduceMul]
  repeat refine peel ?_
  refine hK _ _ _ ?_; clear hK K
  refine awp_reg zs [1, 2] fun K hK => ?_
  try simp only [go_sem, ↓reduceIte, Nat.reduceEqDiff, Nat.reduceLT, Nat.reduceSub, Nat.reduceAdd, Nat.reduceMul]
  repeat refine peel ?_
  refine callK_use Try.func54 rfl rfl rfl ((c_ref3_Copied e.qual h2 _ _)) ?_
  try simp only [go_sem, ↓reduceIte, Nat.reduceEqDiff, Nat.reduceLT, Nat.reduceSub, Nat.reduceAdd, Nat.reduceMul]
  repeat refine peel ?_
  refine hK _ _ _ ?_; clear hK K
  refine awp_reg zs [1, 2] fun K hK => ?_
  try simp only [go_sem, ↓reduceIte, Nat.reduceEqDiff, Nat.reduceLT, Nat.reduceSub, Nat.reduceAdd, Nat.reduceMul]
  repeat refine peel ?_
  refine callK_use Try.func54 rfl rfl rfl ((c_ref3_Copied e.value h3 _ _)) ?_
  try simp only [go_sem, ↓reduceIte, Nat.reduceEqDiff, Nat.reduceLT, Nat.reduceSub, Nat.reduceAdd, Nat.reduceMul]
  repeat refine peel ?_
  refine hK _ _ _ ?_; clear hK K
  refine awp_rq zs [2] ?_
  refine awp_ret ?_
  try simp only [go_sem, ↓reduceIte, Nat.reduceEqDiff, Nat.reduceLT, Nat.reduceSub, Nat.reduceAdd, Nat.reduceMul]
  refine ⟨_, rfl, ?_, Frz.eq rfl (kl_ent e n)⟩
  intro k hk; have h0 : k ≠ n := by omega
  have h1 : ∀ j, k ≠ n + j := fun j => by omega
  simp [Heap.put, h0, h1]

theorem c_ref3_CloneAll_own (l : List Ent) (hl : l.length ≤ 1000000000) (hf : ∀ e ∈ l, e.fits) (H : Heap) (n : Nat) : Ret Try.prog 22 [entsAV l] H n (.osl n l.length 0 l.length) (H.put n (some (.arr l.length 7 (l.map entAV)))) (n + 1) := by
  refine acalls_of_awp Try.func22 rfl Try.ntmps22 (congrArg Array.toList Try.results22) (by simp) ?_
  simp only [go_sem]
  refine awp_rq zs [0] ?_
  refine awp_rq zs [0, 3] ?_
  refine awp_seq_k fun K1 hK1 => ?_
  refine awp_adopt_tmp 3 7 rfl ?_
  refine awp_rq zs [0, 3, 4] ?_
  refine awp_block ?_
  -- loop 0: head [0, 3, 4]
  refine awp_loop (fun T' H' n' => ∃ i : Nat, i ≤ l.length ∧ T' = tl [(0, .sl 7 (l.map entAV)), (3, .osl n i 0 i), (4, .int .i64 i)] ∧ H' = H.put n (some (.arr i 7 ((l.take i).map entAV))) ∧ n' = n + 1) (fun T' _ _ => l.length - iv (T' 4)) ?_ ?_
  ·skip
   exact ⟨0, Nat.zero_le _, rfl, rfl, rfl⟩
  intro T1 H1 n1
  rintro ⟨i, hi, rfl, rfl, rfl⟩
  refine awp_seq_k fun K2 hK2 => ?_
  refine awp_rq zs [0, 3, 4, 8] ?_
  refine awp_cnd (fun hb => ?_) (fun hb => ?_)
  ·skip
   have hlt : i < l.length := by simpa using hb
   have hnth : nth (l.map entAV) i = entAV (l.getD i default) := nth_map entAV l i hlt
   have hfe : (l.getD i default).fits := hf _ (by simp [List.getD, List.getElem?_eq_getElem hlt])
   have htk : l.take (i + 1) = l.take i ++ [l.getD i default] := by rw [List.take_add_one]; simp [List.getD, List.getElem?_eq_getElem hlt]
   generalize l.getD i default = e at *
   have hmin : min i l.length = i := by omega
   refine awp_skip ?_
   try simp only [go_sem, ↓reduceIte, Nat.reduceEqDiff, Nat.reduceLT, Nat.reduceSub, Nat.reduceAdd, Nat.reduceMul]
   refine hK2 _ _ _ ?_
   first | clear hK2 K2 | skip
   refine awp_seq_k fun K3 hK3 => ?_
   refine awp_block ?_
   refine awp_reg1 zs [0, 3, 4] fun K hK => ?_
   try simp only [go_sem, ↓reduceIte, Nat.reduceEqDiff, Nat.reduceLT, Nat.reduceSub, Nat.reduceAdd, Nat.reduceMul, Int.toNat_natCast, hnth]
   repeat (first | (refine And.intro ?_ ?_; · first | exact ⟨rfl, by decide, by simp [AV.sz, AV.szs, AV.memOK]⟩ | (simp; omega)) | refine peel ?_)
   refine callK_use Try.func33 rfl rfl rfl ((c_ref3_Clone e hfe _ _)) ?_
   try simp only [go_sem, ↓reduceIte, Nat.reduceEqDiff, Nat.reduceLT, Nat.reduceSub, Nat.reduceAdd, Nat.reduceMul, Int.toNat_natCast, hnth]
   repeat (first | (refine And.intro ?_ ?_; · first | exact ⟨rfl, by decide, by simp [AV.sz, AV.szs, AV.memOK]⟩ | (simp; omega)) | refine peel ?_)
   refine hK _ _ _ ?_; clear hK K
   try simp only [go_sem, ↓reduceIte, Nat.reduceEqDiff, Nat.reduceLT, Nat.reduceSub, Nat.reduceAdd, Nat.reduceMul]
   refine hK3 _ _ _ ?_
   first | clear hK3 K3 | skip
   refine awp_reg1 zs [0, 3, 4] fun K hK => ?_
   try simp only [go_sem, ↓reduceIte, Nat.reduceEqDiff, Nat.reduceLT, Nat.reduceSub, Nat.reduceAdd, Nat.reduceMul]
   repeat refine peel ?_
   refine hK _ _ _ ?_; clear hK K
   try simp only [go_sem, ↓reduceIte, Nat.reduceEqDiff, Nat.reduceLT, Nat.reduceSub, Nat.reduceAdd, Nat.reduceMul]
   refine ⟨⟨i + 1, by omega, by rw [w1 (by omega)], ?_⟩, by rw [w1 (by omega)]; simp; omega⟩
   rw [htk]; simp [List.take_take]; rfl
  ·skip
   have hge : i = l.length := by simp at hb; omega
   refine awp_exit ?_
   try simp only [go_sem, ↓reduceIte, Nat.reduceEqDiff, Nat.reduceLT, Nat.reduceSub, Nat.reduceAdd, Nat.reduceMul]
   refine hK1 _ _ _ ?_
   first | clear hK1 K1 | skip
   refine awp_rq zs [2] ?_
   refine awp_ret ?_
   try simp only [go_sem, ↓reduceIte, Nat.reduceEqDiff, Nat.reduceLT, Nat.reduceSub, Nat.reduceAdd, Nat.reduceMul]
   rw [hge, List.take_length]; exact ⟨rfl, rfl⟩

theorem c_ref3_CloneAll (l : List Ent) (hl : l.length ≤ 1000000000) (hf : ∀ e ∈ l, e.fits) (H : Heap) (n : Nat) : Ret Try.prog 22 [entsAV l] H n (entsAV l) H n :=
  Ret.fin ((c_ref3_CloneAll_own l hl hf H n).use ⟨_, rfl, fun k hk => Heap.put_ne _ _ (by omega), .osl (Heap.put_same _ _ _) (Nat.le_refl _) (by simp) (by rw [List.drop_zero, List.take_of_length_le (by simp)]; exact FrzL.kls _ (kls_ents _ _))⟩)

/-- has no entry of the one list a Seq of the other -/
def apartE (a b : List Ent) : Bool := a.all fun x => b.all fun y => x.seq != y.seq
end Go.Proofs.Ytijhkfhflpmajaa
namespace Go.Proofs.Ytijhkfhflpmajaa
open Go Go.Sx Go.Rt Go.Proofs

theorem l_ref3_Copied (p : Lp) (b : List UInt8) (hb : b.length ≤ 140737488355328) (H : Heap) (n : Nat) (hp : p.here H b) : Ret Try.prog 54 [p.av b.length] H n (bys b) H n := by
  obtain ⟨hat, hlen, htk⟩ := hp
  refine acalls_of_awp Try.func54 rfl Try.ntmps54 (congrArg Array.toList Try.results54) (by simp) ?_
  simp only [go_sem]
  refine awp_rq zs [0] ?_
  refine awp_rq zs [0, 3] ?_
  refine awp_reg zs [2] fun K hK => ?_
  try simp only [go_sem, ↓reduceIte, Nat.reduceEqDiff, Nat.reduceLT, Nat.reduceSub, Nat.reduceAdd, Nat.reduceMul, hat, List.drop_zero, htk]
  repeat (first | (refine And.intro ?_ ?_; · first | (simp; omega) | exact ⟨rfl, by omega⟩ | exact ⟨⟨rfl, by omega⟩, .inr rfl, by simp; omega, by simp; omega⟩) | refine peel ?_)
  refine hK _ _ _ ?_; clear hK K
  refine awp_ret ?_
  try simp only [go_sem, ↓reduceIte, Nat.reduceEqDiff, Nat.reduceLT, Nat.reduceSub, Nat.reduceAdd, Nat.reduceMul]

theorem l_ref3_Clone (x : LEnt) (he : x.e.fits) (H : Heap) (n : Nat) (hx : x.ok H n) : Ret Try.prog 33 [lentAV x] H n (entAV x.e) H n := by
  obtain ⟨h1, h2, h3⟩ := he
  have zr : x.r.k ≠ n := by have := hx.r.lt; omega
  have zr9 : ∀ j, x.r.k ≠ n + j := fun j => by have := hx.r.lt; omega
  have zq : x.q.k ≠ n := by have := hx.q.lt; omega
  have zq9 : ∀ j, x.q.k ≠ n + j := fun j => by have := hx.q.lt; omega
  have zv : x.v.k ≠ n := by have := hx.v.lt; omega
  have zv9 : ∀ j, x.v.k ≠ n + j := fun j => by have := hx.v.lt; omega
  refine Ret.fin ?_
  refine acalls_of_awp Try.func33 rfl Try.ntmps33 (congrArg Array.toList Try.results33) (by simp) ?_
  simp only [go_sem]
  refine awp_rq zs [1, 2] ?_
  refine awp_reg zs [1, 2] fun K hK => ?_
  try simp only [go_sem, ↓reduceIte, Nat.reduceEqDiff, Nat.reduceLT, Nat.reduceSub, Nat.reduceAdd, Nat.reduceMul]
  repeat refine peel ?_
  refine callK_use Try.func54 rfl rfl rfl ((l_ref3_Copied x.r x.e.row h1 _ _ (hx.r.tohere.mono (by simp [Heap.put, zr, zr9])))) ?_
  try simp only [go_sem, ↓reduceIte, Nat.reduceEqDiff, Nat.reduceLT, Nat.reduceSub, Nat.reduceAdd, Nat.reduceMul]
  repeat refine peel ?_
  refine hK _ _ _ ?_; clear hK K
  refine awp_reg zs [1, 2] fun K hK => ?_
  try simp only [go_sem, ↓reduceIte, Nat.reduceEqDiff, Nat.reduceLT, Nat.reduceSub, Nat.reduceAdd, Nat.reduceMul]
  repeat refine peel ?_
  refine callK_use Try.func54 rfl rfl rfl ((l_ref3_Copied x.q x.e.qual h2 _ _ (hx.q.tohere.mono (by simp [Heap.put, zq, zq9])))) ?_
  try simp only [go_sem, ↓reduceIte, Nat.reduceEqDiff, Nat.reduceLT, Nat.reduceSub, Nat.reduceAdd, Nat.reduceMul]
  repeat refine peel ?_
  refine hK _ _ _ ?_; clear hK K
  refine awp_reg zs [1, 2] fun K hK => ?_
  try simp only [go_sem, ↓reduceIte, Nat.reduceEqDiff, Nat.reduceLT, Nat.reduceSub, Nat.reduceAdd, Nat.reduceMul]
  repeat refine peel ?_
  refine callK_use Try.func54 rfl rfl rfl ((l_ref3_Copied x.v x.e.value h3 _ _ (hx.v.tohere.mono (by simp [Heap.put, zv, zv9])))) ?_
  try simp only [go_sem, ↓reduceIte, Nat.reduceEqDiff, Nat.reduceLT, Nat.reduceSub, Nat.reduceAdd, Nat.reduceMul]
  repeat refine peel ?_
  refine hK _ _ _ ?_; clear hK K
  refine awp_rq zs [2] ?_
  refine awp_ret ?_
  try simp only [go_sem, ↓reduceIte, Nat.reduceEqDiff, Nat.reduceLT, Nat.reduceSub, Nat.reduceAdd, Nat.reduceMul]
  refine ⟨_, rfl, ?_, Frz.eq rfl (kl_ent x.e n)⟩
  intro k hk; have h0 : k ≠ n := by omega
  have h1 : ∀ j, k ≠ n + j := fun j => by omega
  simp [Heap.put, h0, h1]

theorem l_ref3_CloneAll (p : Lp) (l : List LEnt) (hl : l.length ≤ 1000000000) (hf : ∀ x ∈ l, x.e.fits) (H : Heap) (n : Nat) (hL : LList H n p l) : Ret Try.prog 22 [p.av l.length] H n (entsAV (l.map (·.e))) H n := by
  have hlt9 := hL.lt
  refine Ret.fin ?_
  refine acalls_of_awp Try.func22 rfl Try.ntmps22 (congrArg Array.toList Try.results22) (by simp) ?_
  simp only [go_sem]
  refine awp_rq zs [0] ?_
  refine awp_rq zs [0, 3] ?_
  refine awp_seq_k fun K1 hK1 => ?_
  refine awp_adopt_tmp 3 7 rfl ?_
  refine awp_rq zs [0, 3, 4] ?_
  refine awp_block ?_
  -- loop 0: head [0, 3, 4]
  refine awp_loop (fun T' H' n' => ∃ i : Nat, i ≤ l.length ∧ T' = tl [(0, .osl p.k p.ver 0 l.length), (3, .osl n i 0 i), (4, .int .i64 i)] ∧ H' = H.put n (some (.arr i 7 (((l.map (·.e)).take i).map entAV))) ∧ n' = n + 1) (fun T' _ _ => l.length - iv (T' 4)) ?_ ?_
  ·skip
   exact ⟨0, Nat.zero_le _, rfl, rfl, rfl⟩
  intro T1 H1 n1
  rintro ⟨i, hi, rfl, rfl, rfl⟩
  refine awp_seq_k fun K2 hK2 => ?_
  refine awp_rq zs [0, 3, 4, 8] ?_
  refine awp_cnd (fun hb => ?_) (fun hb => ?_)
  ·skip
   have hlt : i < l.length := by simpa using hb
   have hnth : nth p.els i = lentAV (l.getD i default) := hL.nth hlt
   have hii : i < p.els.length := by have := hL.len; omega
   have hmem : l.getD i default ∈ l := by simp [List.getD, List.getElem?_eq_getElem hlt]
   have htk : (l.map (·.e)).take (i + 1) = (l.map (·.e)).take i ++ [(l.getD i default).e] := by rw [List.take_add_one]; simp [List.getD, List.getElem?_eq_getElem hlt]
   generalize l.getD i default = x at *
   have hxo := hL.ok x hmem
   have hpk : (H.put n (some (.arr i 7 (((l.map (·.e)).take i).map entAV)))) p.k = some (.arr p.ver 7 p.els) := (Heap.put_ne _ _ (by omega)).trans hL.at'
   have r1 : (p.k = n) = False := by simp; omega
   have r2 : (n = p.k) = False := by simp; omega
   have hat9 := hL.at'
   have hmin : min i l.length = i := by omega
   refine awp_skip ?_
   try simp only [go_sem, ↓reduceIte, Nat.reduceEqDiff, Nat.reduceLT, Nat.reduceSub, Nat.reduceAdd, Nat.reduceMul]
   refine hK2 _ _ _ ?_
   first | clear hK2 K2 | skip
   refine awp_seq_k fun K3 hK3 => ?_
   refine awp_block ?_
   refine awp_reg1 zs [0, 3, 4] fun K hK => ?_
   try simp only [go_sem, ↓reduceIte, Nat.reduceEqDiff, Nat.reduceLT, Nat.reduceSub, Nat.reduceAdd, Nat.reduceMul, Int.toNat_natCast, hnth, hat9, r1, r2]
   repeat (first | (refine And.intro ?_ ?_; · first | exact hii | exact ⟨rfl, hii, by simp, trivial, trivial, rfl⟩ | exact ⟨rfl, by decide, by simp [AV.sz, AV.szs, AV.memOK]⟩ | (simp; omega)) | refine peel ?_)
   refine callK_use Try.func33 rfl rfl rfl ((l_ref3_Clone x (hf x hmem) _ _ (hxo.mono (fun k hk => Heap.put_ne _ _ (by omega)) (by omega)))) ?_
   try simp only [go_sem, ↓reduceIte, Nat.reduceEqDiff, Nat.reduceLT, Nat.reduceSub, Nat.reduceAdd, Nat.reduceMul, Int.toNat_natCast, hnth, hat9, r1, r2]
   repeat (first | (refine And.intro ?_ ?_; · first | exact hii | exact ⟨rfl, hii, by simp, trivial, trivial, rfl⟩ | exact ⟨rfl, by decide, by simp [AV.sz, AV.szs, AV.memOK]⟩ | (simp; omega)) | refine peel ?_)
   refine hK _ _ _ ?_; clear hK K
   try simp only [go_sem, ↓reduceIte, Nat.reduceEqDiff, Nat.reduceLT, Nat.reduceSub, Nat.reduceAdd, Nat.reduceMul]
   refine hK3 _ _ _ ?_
   first | clear hK3 K3 | skip
   refine awp_reg1 zs [0, 3, 4] fun K hK => ?_
   try simp only [go_sem, ↓reduceIte, Nat.reduceEqDiff, Nat.reduceLT, Nat.reduceSub, Nat.reduceAdd, Nat.reduceMul]
   repeat refine peel ?_
   refine hK _ _ _ ?_; clear hK K
   try simp only [go_sem, ↓reduceIte, Nat.reduceEqDiff, Nat.reduceLT, Nat.reduceSub, Nat.reduceAdd, Nat.reduceMul]
   refine ⟨⟨i + 1, by omega, by rw [w1 (by omega)], ?_⟩, by rw [w1 (by omega)]; simp; omega⟩
   rw [htk]; simp [List.take_take]; rfl
  ·skip
   have hge : i = l.length := by simp at hb; omega
   refine awp_exit ?_
   try simp only [go_sem, ↓reduceIte, Nat.reduceEqDiff, Nat.reduceLT, Nat.reduceSub, Nat.reduceAdd, Nat.reduceMul]
   refine hK1 _ _ _ ?_
   first | clear hK1 K1 | skip
   refine awp_rq zs [2] ?_
   refine awp_ret ?_
   try simp only [go_sem, ↓reduceIte, Nat.reduceEqDiff, Nat.reduceLT, Nat.reduceSub, Nat.reduceAdd, Nat.reduceMul]
   refine ⟨_, rfl, fun k hk => Heap.put_ne _ _ (by omega), .osl (Heap.put_same _ _ _) (Nat.le_refl _) (by simp; omega) ?_⟩
   rw [hge, List.drop_zero, List.take_of_length_le (l := l.map (·.e)) (by simp), List.take_of_length_le (by simp)]; exact FrzL.kls _ (kls_ents _ _)
end Go.Proofs.Ytijhkfhflpmajaa


namespace Go.Proofs.Ytijhkfhflpmajaa
open Go Go.Sx Go.Rt Go.Proofs

def oneE (kind ts seq : Int) : Ent := ⟨[114], 0, if kind = 5 then [] else [113], ts, seq, kind, if kind = 1 then [118] else []⟩
theorem c_law_one (kind ts seq : Int) (H : Heap) (n : Nat) : Ret Try.prog 38 [.int .i64 kind, .int .i64 ts, .int .i64 seq] H n (entAV (oneE kind ts seq)) H n := by
  refine Ret.fin ?_
  refine acalls_of_awp Try.func38 rfl Try.ntmps38 (congrArg Array.toList Try.results38) (by simp) ?_
  simp only [go_sem]
  refine awp_reg zs [0, 1, 2, 6] fun K hK => ?_
  try simp only [go_sem, ↓reduceIte, Nat.reduceEqDiff, Nat.reduceLT, Nat.reduceSub, Nat.reduceAdd, Nat.reduceMul, Nat.add_assoc]
  repeat refine peel ?_
  refine hK _ _ _ ?_; clear hK K
  refine awp_reg zo [0, 6, 7] fun K hK => ?_
  try simp only [go_sem, ↓reduceIte, Nat.reduceEqDiff, Nat.reduceLT, Nat.reduceSub, Nat.reduceAdd, Nat.reduceMul, Nat.add_assoc]
  repeat refine peel ?_
  refine hK _ _ _ ?_; clear hK K
  refine awp_seq_k fun K1 hK1 => ?_
  refine awp_reg zs [0, 6, 7, 17] fun K hK => ?_
  try simp only [go_sem, ↓reduceIte, Nat.reduceEqDiff, Nat.reduceLT, Nat.reduceSub, Nat.reduceAdd, Nat.reduceMul, Nat.add_assoc]
  repeat refine peel ?_
  refine hK _ _ _ ?_; clear hK K
  refine awp_cnd (fun hb => ?_) (fun hb => ?_)
  ·skip
   have h1 : kind = 1 := by simpa using hb
   refine awp_reg1 zo [0, 6, 7] fun K hK => ?_
   try simp only [go_sem, ↓reduceIte, Nat.reduceEqDiff, Nat.reduceLT, Nat.reduceSub, Nat.reduceAdd, Nat.reduceMul, Nat.add_assoc]
   repeat refine peel ?_
   refine hK _ _ _ ?_; clear hK K
   try simp only [go_sem, ↓reduceIte, Nat.reduceEqDiff, Nat.reduceLT, Nat.reduceSub, Nat.reduceAdd, Nat.reduceMul, Nat.add_assoc]
   refine hK1 _ _ _ ?_
   first | clear hK1 K1 | skip
   refine awp_seq_k fun K2 hK2 => ?_
   refine awp_reg zs [6, 7, 22] fun K hK => ?_
   try simp only [go_sem, ↓reduceIte, Nat.reduceEqDiff, Nat.reduceLT, Nat.reduceSub, Nat.reduceAdd, Nat.reduceMul, Nat.add_assoc]
   repeat refine peel ?_
   refine hK _ _ _ ?_; clear hK K
   refine awp_cnd (fun hb => ?_) (fun hb => ?_)
   ·skip
    have h2 : kind = 5 := by simpa using hb
    refine awp_reg1 zs [6, 7] fun K hK => ?_
    try simp only [go_sem, ↓reduceIte, Nat.reduceEqDiff, Nat.reduceLT, Nat.reduceSub, Nat.reduceAdd, Nat.reduceMul, Nat.add_assoc]
    repeat refine peel ?_
    refine hK _ _ _ ?_; clear hK K
    try simp only [go_sem, ↓reduceIte, Nat.reduceEqDiff, Nat.reduceLT, Nat.reduceSub, Nat.reduceAdd, Nat.reduceMul, Nat.add_assoc]
    refine hK2 _ _ _ ?_
    first | clear hK2 K2 | skip
    refine awp_reg zs [6] fun K hK => ?_
    try simp only [go_sem, ↓reduceIte, Nat.reduceEqDiff, Nat.reduceLT, Nat.reduceSub, Nat.reduceAdd, Nat.reduceMul, Nat.add_assoc]
    repeat refine peel ?_
    refine hK _ _ _ ?_; clear hK K
    refine awp_ret ?_
    try simp only [go_sem, ↓reduceIte, Nat.reduceEqDiff, Nat.reduceLT, Nat.reduceSub, Nat.reduceAdd, Nat.reduceMul, Nat.add_assoc]
    refine ⟨_, rfl, ?_, ?_⟩
    · intro k hk; have h0 : k ≠ n := by omega
      have h1 : ∀ j, k ≠ n + j := fun j => by omega
      simp [Heap.put, h0, h1]
    · simp only [oneE, h1, h2, if_true, if_false, entAV, Int.reduceEq, Nat.reduceEqDiff]
      refine Frz.agg ?_
      repeat' (first | exact FrzL.nil | refine FrzL.cons ?_ ?_ | exact Frz.nilsl | exact Frz.kl (a := .sl 1 [.int .u8 114]) ⟨trivial, trivial⟩ | exact Frz.kl (a := .sl 1 [.int .u8 113]) ⟨trivial, trivial⟩ | exact Frz.kl (a := .sl 1 [.int .u8 118]) ⟨trivial, trivial⟩ | exact Frz.kl trivial | (exfalso; omega))
   ·skip
    have h2 : kind ≠ 5 := by simpa using hb
    refine awp_skip ?_
    try simp only [go_sem, ↓reduceIte, Nat.reduceEqDiff, Nat.reduceLT, Nat.reduceSub, Nat.reduceAdd, Nat.reduceMul, Nat.add_assoc]
    refine hK2 _ _ _ ?_
    first | clear hK2 K2 | skip
    refine awp_reg zs [6] fun K hK => ?_
    try simp only [go_sem, ↓reduceIte, Nat.reduceEqDiff, Nat.reduceLT, Nat.reduceSub, Nat.reduceAdd, Nat.reduceMul, Nat.add_assoc]
    repeat refine peel ?_
    refine hK _ _ _ ?_; clear hK K
    refine awp_ret ?_
    try simp only [go_sem, ↓reduceIte, Nat.reduceEqDiff, Nat.reduceLT, Nat.reduceSub, Nat.reduceAdd, Nat.reduceMul, Nat.add_assoc]
    refine ⟨_, rfl, ?_, ?_⟩
    · intro k hk; have h0 : k ≠ n := by omega
      have h1 : ∀ j, k ≠ n + j := fun j => by omega
      simp [Heap.put, h0, h1]
    · simp only [oneE, h1, h2, if_true, if_false, entAV, Int.reduceEq, Nat.reduceEqDiff]
      refine Frz.agg ?_
      repeat' (first | exact FrzL.nil | refine FrzL.cons ?_ ?_ | exact Frz.nilsl | exact Frz.kl (a := .sl 1 [.int .u8 114]) ⟨trivial, trivial⟩ | exact Frz.kl (a := .sl 1 [.int .u8 113]) ⟨trivial, trivial⟩ | exact Frz.kl (a := .sl 1 [.int .u8 118]) ⟨trivial, trivial⟩ | exact Frz.kl trivial | (exfalso; omega))
  ·skip
   have h1 : kind ≠ 1 := by simpa using hb
   refine awp_skip ?_
   try simp only [go_sem, ↓reduceIte, Nat.reduceEqDiff, Nat.reduceLT, Nat.reduceSub, Nat.reduceAdd, Nat.reduceMul, Nat.add_assoc]
   refine hK1 _ _ _ ?_
   first | clear hK1 K1 | skip
   refine awp_seq_k fun K3 hK3 => ?_
   refine awp_reg zs [6, 7, 22] fun K hK => ?_
   try simp only [go_sem, ↓reduceIte, Nat.reduceEqDiff, Nat.reduceLT, Nat.reduceSub, Nat.reduceAdd, Nat.reduceMul, Nat.add_assoc]
   repeat refine peel ?_
   refine hK _ _ _ ?_; clear hK K
   refine awp_cnd (fun hb => ?_) (fun hb => ?_)
   ·skip
    have h2 : kind = 5 := by simpa using hb
    refine awp_reg1 zs [6, 7] fun K hK => ?_
    try simp only [go_sem, ↓reduceIte, Nat.reduceEqDiff, Nat.reduceLT, Nat.reduceSub, Nat.reduceAdd, Nat.reduceMul, Nat.add_assoc]
    repeat refine peel ?_
    refine hK _ _ _ ?_; clear hK K
    try simp only [go_sem, ↓reduceIte, Nat.reduceEqDiff, Nat.reduceLT, Nat.reduceSub, Nat.reduceAdd, Nat.reduceMul, Nat.add_assoc]
    refine hK3 _ _ _ ?_
    first | clear hK3 K3 | skip
    refine awp_reg zs [6] fun K hK => ?_
    try simp only [go_sem, ↓reduceIte, Nat.reduceEqDiff, Nat.reduceLT, Nat.reduceSub, Nat.reduceAdd, Nat.reduceMul, Nat.add_assoc]
    repeat refine peel ?_
    refine hK _ _ _ ?_; clear hK K
    refine awp_ret ?_
    try simp only [go_sem, ↓reduceIte, Nat.reduceEqDiff, Nat.reduceLT, Nat.reduceSub, Nat.reduceAdd, Nat.reduceMul, Nat.add_assoc]
    refine ⟨_, rfl, ?_, ?_⟩
    · intro k hk; have h0 : k ≠ n := by omega
      have h1 : ∀ j, k ≠ n + j := fun j => by omega
      simp [Heap.put, h0, h1]
    · simp only [oneE, h1, h2, if_true, if_false, entAV, Int.reduceEq, Nat.reduceEqDiff]
      refine Frz.agg ?_
      repeat' (first | exact FrzL.nil | refine FrzL.cons ?_ ?_ | exact Frz.nilsl | exact Frz.kl (a := .sl 1 [.int .u8 114]) ⟨trivial, trivial⟩ | exact Frz.kl (a := .sl 1 [.int .u8 113]) ⟨trivial, trivial⟩ | exact Frz.kl (a := .sl 1 [.int .u8 118]) ⟨trivial, trivial⟩ | exact Frz.kl trivial | (exfalso; omega))
   ·skip
    have h2 : kind ≠ 5 := by simpa using hb
    refine awp_skip ?_
    try simp only [go_sem, ↓reduceIte, Nat.reduceEqDiff, Nat.reduceLT, Nat.reduceSub, Nat.reduceAdd, Nat.reduceMul, Nat.add_assoc]
    refine hK3 _ _ _ ?_
    first | clear hK3 K3 | skip
    refine awp_reg zs [6] fun K hK => ?_
    try simp only [go_sem, ↓reduceIte, Nat.reduceEqDiff, Nat.reduceLT, Nat.reduceSub, Nat.reduceAdd, Nat.reduceMul, Nat.add_assoc]
    repeat refine peel ?_
    refine hK _ _ _ ?_; clear hK K
    refine awp_ret ?_
    try simp only [go_sem, ↓reduceIte, Nat.reduceEqDiff, Nat.reduceLT, Nat.reduceSub, Nat.reduceAdd, Nat.reduceMul, Nat.add_assoc]
    refine ⟨_, rfl, ?_, ?_⟩
    · intro k hk; have h0 : k ≠ n := by omega
      have h1 : ∀ j, k ≠ n + j := fun j => by omega
      simp [Heap.put, h0, h1]
    · simp only [oneE, h1, h2, if_true, if_false, entAV, Int.reduceEq, Nat.reduceEqDiff]
      refine Frz.agg ?_
      repeat' (first | exact FrzL.nil | refine FrzL.cons ?_ ?_ | exact Frz.nilsl | exact Frz.kl (a := .sl 1 [.int .u8 114]) ⟨trivial, trivial⟩ | exact Frz.kl (a := .sl 1 [.int .u8 113]) ⟨trivial, trivial⟩ | exact Frz.kl (a := .sl 1 [.int .u8 118]) ⟨trivial, trivial⟩ | exact Frz.kl trivial | (exfalso; omega))

def familyE (max ttl : Int) : List Fml := [⟨[102], max, ttl⟩]
theorem c_law_family (max ttl : Int) (H : Heap) (n : Nat) : Ret Try.prog 39 [.int .i64 max, .int .i64 ttl] H n (schAV (familyE max ttl)) H n := by
  refine Ret.fin ?_
  refine acalls_of_awp Try.func39 rfl Try.ntmps39 (congrArg Array.toList Try.results39) (by simp) ?_
  simp only [go_sem]
  refine awp_rq zs [0, 1, 4] ?_
  refine awp_reg zs [4] fun K hK => ?_
  try simp only [go_sem, ↓reduceIte, Nat.reduceEqDiff, Nat.reduceLT, Nat.reduceSub, Nat.reduceAdd, Nat.reduceMul]
  repeat (first | (refine And.intro ?_ ?_; · first | exact ⟨rfl, by decide, by simp [AV.sz, AV.szs, AV.memOK]⟩) | refine peel ?_)
  refine hK _ _ _ ?_; clear hK K
  refine awp_ret ?_
  try simp only [go_sem, ↓reduceIte, Nat.reduceEqDiff, Nat.reduceLT, Nat.reduceSub, Nat.reduceAdd, Nat.reduceMul]
  refine ⟨_, rfl, ?_, Frz.kl (show AV.kl n (schAV (familyE max ttl)) from kl_sch _ _)⟩
  · intro k hk; have h0 : k ≠ n := by omega
    simp [Heap.put, h0]

def l0 : List Ent := [oneE 1 5 3, oneE 1 9 1, oneE 3 7 4, oneE 1 7 2]
theorem vis0 : visE (familyE 2 10) 12 l0 = ([oneE 1 9 1], 0) := by decide +kernel
theorem squash0 : squashE (familyE 2 10) 12 false 0 l0 = ([oneE 1 9 1, oneE 2 7 4], 0) := by decide +kernel
theorem read0 : readE (familyE 2 10) 12 12 1 l0 = ([oneE 1 9 1], 0) := by decide +kernel
theorem top0 : topE (familyE 2 10) 12 l0 = (9, 0) := by decide +kernel

set_option maxHeartbeats 1600000 in
theorem c_law_started (H : Heap) (n : Nat) : Ret Try.prog 11 [] H n (.bool true) H n := by
  refine acalls_of_awp Try.func11 rfl Try.ntmps11 (congrArg Array.toList Try.results11) (by simp) ?_
  simp only [go_sem]
  refine awp_reg zs [] fun K hK => ?_
  try simp only [go_sem, ↓reduceIte, Nat.reduceEqDiff, Nat.reduceLT, Nat.reduceSub, Nat.reduceAdd, Nat.reduceMul, vis0, squash0, read0, top0]
  repeat refine peel ?_
  refine hK _ _ _ ?_; clear hK K
  refine awp_reg zs [1] fun K hK => ?_
  try simp only [go_sem, ↓reduceIte, Nat.reduceEqDiff, Nat.reduceLT, Nat.reduceSub, Nat.reduceAdd, Nat.reduceMul, vis0, squash0, read0, top0]
  repeat (first | (refine And.intro ?_ ?_; · first | exact ⟨rfl, by decide, by simp [AV.sz, AV.szs, AV.memOK]⟩) | refine peel ?_)
  refine callK_use Try.func38 rfl rfl rfl ((c_law_one 1 5 3 _ _)) ?_
  try simp only [go_sem, ↓reduceIte, Nat.reduceEqDiff, Nat.reduceLT, Nat.reduceSub, Nat.reduceAdd, Nat.reduceMul, vis0, squash0, read0, top0]
  repeat (first | (refine And.intro ?_ ?_; · first | exact ⟨rfl, by decide, by simp [AV.sz, AV.szs, AV.memOK]⟩) | refine peel ?_)
  refine callK_use Try.func38 rfl rfl rfl ((c_law_one 1 9 1 _ _)) ?_
  try simp only [go_sem, ↓reduceIte, Nat.reduceEqDiff, Nat.reduceLT, Nat.reduceSub, Nat.reduceAdd, Nat.reduceMul, vis0, squash0, read0, top0]
  repeat (first | (refine And.intro ?_ ?_; · first | exact ⟨rfl, by decide, by simp [AV.sz, AV.szs, AV.memOK]⟩) | refine peel ?_)
  refine callK_use Try.func38 rfl rfl rfl ((c_law_one 3 7 4 _ _)) ?_
  try simp only [go_sem, ↓reduceIte, Nat.reduceEqDiff, Nat.reduceLT, Nat.reduceSub, Nat.reduceAdd, Nat.reduceMul, vis0, squash0, read0, top0]
  repeat (first | (refine And.intro ?_ ?_; · first | exact ⟨rfl, by decide, by simp [AV.sz, AV.szs, AV.memOK]⟩) | refine peel ?_)
  refine callK_use Try.func38 rfl rfl rfl ((c_law_one 1 7 2 _ _)) ?_
  try simp only [go_sem, ↓reduceIte, Nat.reduceEqDiff, Nat.reduceLT, Nat.reduceSub, Nat.reduceAdd, Nat.reduceMul, vis0, squash0, read0, top0]
  repeat (first | (refine And.intro ?_ ?_; · first | exact ⟨rfl, by decide, by simp [AV.sz, AV.szs, AV.memOK]⟩) | refine peel ?_)
  refine hK _ _ _ ?_; clear hK K
  refine awp_reg zs [1, 2, 3] fun K hK => ?_
  try simp only [go_sem, ↓reduceIte, Nat.reduceEqDiff, Nat.reduceLT, Nat.reduceSub, Nat.reduceAdd, Nat.reduceMul, vis0, squash0, read0, top0]
  repeat refine peel ?_
  refine callK_use Try.func39 rfl rfl rfl ((c_law_family 2 10 _ _)) ?_
  try simp only [go_sem, ↓reduceIte, Nat.reduceEqDiff, Nat.reduceLT, Nat.reduceSub, Nat.reduceAdd, Nat.reduceMul, vis0, squash0, read0, top0]
  repeat refine peel ?_
  refine callK_use Try.func19 rfl rfl rfl ((c_retain_Vis (familyE 2 10) 12 l0 (by decide) _ _)) ?_
  try simp only [go_sem, ↓reduceIte, Nat.reduceEqDiff, Nat.reduceLT, Nat.reduceSub, Nat.reduceAdd, Nat.reduceMul, vis0, squash0, read0, top0]
  repeat refine peel ?_
  refine hK _ _ _ ?_; clear hK K
  refine awp_reg zs [1, 2, 3, 4, 5] fun K hK => ?_
  try simp only [go_sem, ↓reduceIte, Nat.reduceEqDiff, Nat.reduceLT, Nat.reduceSub, Nat.reduceAdd, Nat.reduceMul, vis0, squash0, read0, top0]
  repeat refine peel ?_
  refine callK_use Try.func39 rfl rfl rfl ((c_law_family 2 10 _ _)) ?_
  try simp only [go_sem, ↓reduceIte, Nat.reduceEqDiff, Nat.reduceLT, Nat.reduceSub, Nat.reduceAdd, Nat.reduceMul, vis0, squash0, read0, top0]
  repeat refine peel ?_
  refine callK_use Try.func15 rfl rfl rfl ((c_retain_Squash (familyE 2 10) 12 0 false l0 (by decide) _ _)) ?_
  try simp only [go_sem, ↓reduceIte, Nat.reduceEqDiff, Nat.reduceLT, Nat.reduceSub, Nat.reduceAdd, Nat.reduceMul, vis0, squash0, read0, top0]
  repeat refine peel ?_
  refine hK _ _ _ ?_; clear hK K
  refine awp_reg zs [1, 2, 3, 4, 5, 6, 7] fun K hK => ?_
  try simp only [go_sem, ↓reduceIte, Nat.reduceEqDiff, Nat.reduceLT, Nat.reduceSub, Nat.reduceAdd, Nat.reduceMul, vis0, squash0, read0, top0]
  repeat refine peel ?_
  refine callK_use Try.func39 rfl rfl rfl ((c_law_family 2 10 _ _)) ?_
  try simp only [go_sem, ↓reduceIte, Nat.reduceEqDiff, Nat.reduceLT, Nat.reduceSub, Nat.reduceAdd, Nat.reduceMul, vis0, squash0, read0, top0]
  repeat refine peel ?_
  refine callK_use Try.func24 rfl rfl rfl ((c_retain_Read (familyE 2 10) 12 12 1 l0 (by decide) _ _)) ?_
  try simp only [go_sem, ↓reduceIte, Nat.reduceEqDiff, Nat.reduceLT, Nat.reduceSub, Nat.reduceAdd, Nat.reduceMul, vis0, squash0, read0, top0]
  repeat refine peel ?_
  refine hK _ _ _ ?_; clear hK K
  refine awp_reg zs [2, 3, 4, 5, 6, 7, 8, 9] fun K hK => ?_
  try simp only [go_sem, ↓reduceIte, Nat.reduceEqDiff, Nat.reduceLT, Nat.reduceSub, Nat.reduceAdd, Nat.reduceMul, vis0, squash0, read0, top0]
  repeat refine peel ?_
  refine callK_use Try.func39 rfl rfl rfl ((c_law_family 2 10 _ _)) ?_
  try simp only [go_sem, ↓reduceIte, Nat.reduceEqDiff, Nat.reduceLT, Nat.reduceSub, Nat.reduceAdd, Nat.reduceMul, vis0, squash0, read0, top0]
  repeat refine peel ?_
  refine callK_use Try.func40 rfl rfl rfl ((c_retain_Top (familyE 2 10) 12 l0 (by decide) _ _)) ?_
  try simp only [go_sem, ↓reduceIte, Nat.reduceEqDiff, Nat.reduceLT, Nat.reduceSub, Nat.reduceAdd, Nat.reduceMul, vis0, squash0, read0, top0]
  repeat refine peel ?_
  refine hK _ _ _ ?_; clear hK K
  refine awp_seq_k fun K1 hK1 => ?_
  refine awp_reg zs [2, 4, 6, 75] fun K hK => ?_
  try simp only [go_sem, ↓reduceIte, Nat.reduceEqDiff, Nat.reduceLT, Nat.reduceSub, Nat.reduceAdd, Nat.reduceMul, vis0, squash0, read0, top0]
  repeat refine peel ?_
  refine callK_use Try.func16 rfl rfl rfl ((by apply c_law_num <;> first | assumption | omega)) ?_
  try simp only [go_sem, ↓reduceIte, Nat.reduceEqDiff, Nat.reduceLT, Nat.reduceSub, Nat.reduceAdd, Nat.reduceMul, vis0, squash0, read0, top0]
  repeat refine peel ?_
  refine callG_use Try.func16 rfl rfl rfl (fun _ => (by apply c_law_num <;> first | assumption | omega)) ?_
  try simp only [go_sem, ↓reduceIte, Nat.reduceEqDiff, Nat.reduceLT, Nat.reduceSub, Nat.reduceAdd, Nat.reduceMul, vis0, squash0, read0, top0]
  repeat refine peel ?_
  refine callG_use Try.func16 rfl rfl rfl (fun _ => (by apply c_law_num <;> first | assumption | omega)) ?_
  try simp only [go_sem, ↓reduceIte, Nat.reduceEqDiff, Nat.reduceLT, Nat.reduceSub, Nat.reduceAdd, Nat.reduceMul, vis0, squash0, read0, top0]
  repeat refine peel ?_
  refine callG_use Try.func16 rfl rfl rfl (fun _ => (by apply c_law_num <;> first | assumption | omega)) ?_
  try simp only [go_sem, ↓reduceIte, Nat.reduceEqDiff, Nat.reduceLT, Nat.reduceSub, Nat.reduceAdd, Nat.reduceMul, vis0, squash0, read0, top0]
  repeat refine peel ?_
  refine hK _ _ _ ?_; clear hK K
  refine awp_cnd (fun hb => ?_) (fun hb => ?_)
  ·skip
   refine awp_reg zs [0] fun K hK => ?_
   try simp only [go_sem, ↓reduceIte, Nat.reduceEqDiff, Nat.reduceLT, Nat.reduceSub, Nat.reduceAdd, Nat.reduceMul, vis0, squash0, read0, top0]
   repeat refine peel ?_
   refine hK _ _ _ ?_; clear hK K
   refine awp_ret ?_
   try simp only [go_sem, ↓reduceIte, Nat.reduceEqDiff, Nat.reduceLT, Nat.reduceSub, Nat.reduceAdd, Nat.reduceMul, vis0, squash0, read0, top0]
   first | (simp [sameE]; done) | exact absurd hb (by decide)
  ·skip
   refine awp_skip ?_
   try simp only [go_sem, ↓reduceIte, Nat.reduceEqDiff, Nat.reduceLT, Nat.reduceSub, Nat.reduceAdd, Nat.reduceMul, vis0, squash0, read0, top0]
   refine hK1 _ _ _ ?_
   first | clear hK1 K1 | skip
   refine awp_drw rfl zs [0] [.m, .q, .q, .c, .c, .m, .m, .q, .q, .c, .c, .q, .m, .m, .q, .q, .c, .c, .q, .m, .m, .q, .q, .c, .c, .q, .q] (by kernel_rfl) (fun _ _ _ _ _ h => h) fun K hK => ?_
   try simp only [go_sem, ↓reduceIte, Nat.reduceEqDiff, Nat.reduceLT, Nat.reduceSub, Nat.reduceAdd, Nat.reduceMul, vis0, squash0, read0, top0]
   repeat refine peel ?_
   refine callQG_use Try.func38 rfl rfl rfl (fun _ n => (by apply c_law_one <;> first | assumption | omega)) ?_
   try simp only [go_sem, ↓reduceIte, Nat.reduceEqDiff, Nat.reduceLT, Nat.reduceSub, Nat.reduceAdd, Nat.reduceMul, vis0, squash0, read0, top0]
   repeat refine peel ?_
   refine callQG_use Try.func41 rfl rfl rfl (fun _ n => (by apply c_ref3_Same <;> first | assumption | omega)) ?_
   try simp only [go_sem, ↓reduceIte, Nat.reduceEqDiff, Nat.reduceLT, Nat.reduceSub, Nat.reduceAdd, Nat.reduceMul, vis0, squash0, read0, top0]
   repeat refine peel ?_
   refine callQG_use Try.func38 rfl rfl rfl (fun _ n => (by apply c_law_one <;> first | assumption | omega)) ?_
   try simp only [go_sem, ↓reduceIte, Nat.reduceEqDiff, Nat.reduceLT, Nat.reduceSub, Nat.reduceAdd, Nat.reduceMul, vis0, squash0, read0, top0]
   repeat refine peel ?_
   refine callQG_use Try.func41 rfl rfl rfl (fun _ n => (by apply c_ref3_Same <;> first | assumption | omega)) ?_
   try simp only [go_sem, ↓reduceIte, Nat.reduceEqDiff, Nat.reduceLT, Nat.reduceSub, Nat.reduceAdd, Nat.reduceMul, vis0, squash0, read0, top0]
   repeat refine peel ?_
   refine callQG_use Try.func38 rfl rfl rfl (fun _ n => (by apply c_law_one <;> first | assumption | omega)) ?_
   try simp only [go_sem, ↓reduceIte, Nat.reduceEqDiff, Nat.reduceLT, Nat.reduceSub, Nat.reduceAdd, Nat.reduceMul, vis0, squash0, read0, top0]
   repeat refine peel ?_
   refine callQG_use Try.func41 rfl rfl rfl (fun _ n => (by apply c_ref3_Same <;> first | assumption | omega)) ?_
   try simp only [go_sem, ↓reduceIte, Nat.reduceEqDiff, Nat.reduceLT, Nat.reduceSub, Nat.reduceAdd, Nat.reduceMul, vis0, squash0, read0, top0]
   repeat refine peel ?_
   refine callQG_use Try.func38 rfl rfl rfl (fun _ n => (by apply c_law_one <;> first | assumption | omega)) ?_
   try simp only [go_sem, ↓reduceIte, Nat.reduceEqDiff, Nat.reduceLT, Nat.reduceSub, Nat.reduceAdd, Nat.reduceMul, vis0, squash0, read0, top0]
   repeat refine peel ?_
   refine callQG_use Try.func41 rfl rfl rfl (fun _ n => (by apply c_ref3_Same <;> first | assumption | omega)) ?_
   try simp only [go_sem, ↓reduceIte, Nat.reduceEqDiff, Nat.reduceLT, Nat.reduceSub, Nat.reduceAdd, Nat.reduceMul, vis0, squash0, read0, top0]
   repeat refine peel ?_
   refine hK _ _ _ ?_; clear hK K
   refine awp_ret ?_
   try simp only [go_sem, ↓reduceIte, Nat.reduceEqDiff, Nat.reduceLT, Nat.reduceSub, Nat.reduceAdd, Nat.reduceMul, vis0, squash0, read0, top0]
   first | (simp [sameE]; done) | exact absurd hb (by decide)

def shownX (x e : Ent) : Bool := x.fam == e.fam && x.ts == e.ts && x.seq == e.seq && x.row == e.row && x.qual == e.qual && x.kind == e.kind
def shownB (l : List Ent) (e : Ent) : Bool := l.any fun x => shownX x e
end Go.Proofs.Ytijhkfhflpmajaa
namespace Go.Proofs.Ytijhkfhflpmajaa
open Go Go.Sx Go.Rt Go.Proofs

theorem c_law_grown (k ver l m : Nat) (hl : l ≤ 140000) (H : Heap) (n : Nat) (hk : k < n) (hH : H k = some (.arr ver 1 (List.replicate l (.int .u8 (m : Int))))) :
    ACalls Try.prog 48 [.osl k ver 0 l, .int .u8 m] H n fun res H' n' => ∃ gk gv L, res = .val (.osl gk gv 0 (2 * l + 70)) ∧ n ≤ n' ∧ gk < n' ∧ (gk = k ∨ n ≤ gk) ∧ l ≤ L ∧ H' k = some (.arr ver 1 (List.replicate L (.int .u8 m))) ∧ H' gk = some (.arr gv 1 (List.replicate (2 * l + 70) (.int .u8 m))) ∧ ∀ j, j < n → j ≠ k → H' j = H j := by
  have hw70 : IntKind.i64.wrap ((l : Int) + 70) = (l : Int) + 70 := w64 (by omega) (by omega)
  refine acalls_of_awp Try.func48 rfl Try.ntmps48 (congrArg Array.toList Try.results48) (by simp) ?_
  simp only [go_sem]
  refine awp_rq zs [0, 1] ?_
  refine awp_rq zs [0, 1, 5] ?_
  refine awp_seq_k fun K1 hK1 => ?_
  refine awp_rq zs [0, 1, 5, 6] ?_
  refine awp_block ?_
  -- loop 0: head [0, 1, 5, 6]
  refine awp_loop (fun T' H' n' => ∃ (i gk gv L : Nat), i ≤ l + 70 ∧ T' = tl [(0, .osl k ver 0 l), (1, .int .u8 m), (5, .osl gk gv 0 (l + i)), (6, .int .i64 i)] ∧ n ≤ n' ∧ gk < n' ∧ (gk = k ∨ n ≤ gk) ∧ l ≤ L ∧ H' k = some (.arr ver 1 (List.replicate L (.int .u8 (m : Int)))) ∧ H' gk = some (.arr gv 1 (List.replicate (l + i) (.int .u8 (m : Int)))) ∧ ∀ j, j < n → j ≠ k → H' j = H j) (fun T' _ _ => l + 70 - iv (T' 6)) ?_ ?_
  ·skip
   exact ⟨0, k, ver, l, by omega, rfl, Nat.le_refl _, hk, .inl rfl, Nat.le_refl _, hH, hH, fun j _ _ => rfl⟩
  intro T1 H1 n1
  rintro ⟨i, gk, gv, L, hi, rfl, hn, hgk, hor, hL, hk1, hg1, hrest⟩
  refine awp_seq_k fun K2 hK2 => ?_
  refine awp_reg zs [0, 1, 5, 6, 12] fun K hK => ?_
  try simp only [go_sem, ↓reduceIte, Nat.reduceEqDiff, Nat.reduceLT, Nat.reduceSub, Nat.reduceAdd, Nat.reduceMul, hw70]
  repeat refine peel ?_
  refine hK _ _ _ ?_; clear hK K
  refine awp_cnd (fun hb => ?_) (fun hb => ?_)
  ·skip
   have hlt : i < l + 70 := by have := of_decide_eq_true hb; omega
   refine awp_skip ?_
   try simp only [go_sem, ↓reduceIte, Nat.reduceEqDiff, Nat.reduceLT, Nat.reduceSub, Nat.reduceAdd, Nat.reduceMul]
   refine hK2 _ _ _ ?_
   first | clear hK2 K2 | skip
   refine awp_seq_k fun K3 hK3 => ?_
   refine awp_block ?_
   refine awp_reg_app1 zs [0, 1, 5, 6] 3 rfl (by first | trivial | (show _ < _; decide)) fun K hK => ?_
   try simp only [go_sem, ↓reduceIte, Nat.reduceEqDiff, Nat.reduceLT, Nat.reduceSub, Nat.reduceAdd, Nat.reduceMul, hg1]
   repeat (first | (refine And.intro ?_ ?_; · first | exact ⟨rfl, by decide, by simp [AV.sz, AV.memOK]⟩ | exact ⟨by simp, .inr trivial, by omega, by omega⟩) | refine peel ?_)
   refine AppK.all hgk ?_ hg1
   intro gk2 gv2 H2 n2 hn2 hgk2 hor2 hg2 hk2 hrest2
   try simp only [go_sem, ↓reduceIte, Nat.reduceEqDiff, Nat.reduceLT, Nat.reduceSub, Nat.reduceAdd, Nat.reduceMul, hg1]
   repeat (first | (refine And.intro ?_ ?_; · first | exact ⟨rfl, by decide, by simp [AV.sz, AV.memOK]⟩ | exact ⟨by simp, .inr trivial, by omega, by omega⟩) | refine peel ?_)
   refine hK _ _ _ ?_; clear hK K
   try simp only [go_sem, ↓reduceIte, Nat.reduceEqDiff, Nat.reduceLT, Nat.reduceSub, Nat.reduceAdd, Nat.reduceMul]
   refine hK3 _ _ _ ?_
   first | clear hK3 K3 | skip
   refine awp_reg1 zs [0, 1, 5, 6] fun K hK => ?_
   try simp only [go_sem, ↓reduceIte, Nat.reduceEqDiff, Nat.reduceLT, Nat.reduceSub, Nat.reduceAdd, Nat.reduceMul]
   repeat refine peel ?_
   refine hK _ _ _ ?_; clear hK K
   try simp only [go_sem, ↓reduceIte, Nat.reduceEqDiff, Nat.reduceLT, Nat.reduceSub, Nat.reduceAdd, Nat.reduceMul]
   obtain ⟨L2, hL2, hk3⟩ := grow_old (l := l) (by omega) hk1 hL hg1 hk2 hrest2
   refine ⟨⟨i + 1, gk2, gv2, L2, by omega, by rw [w1 (by omega)]; simp [Nat.add_assoc], by omega, hgk2, ?_, hL2, hk3, by rw [hg2, ← Nat.add_assoc, List.replicate_succ'], fun j h1 h2 => ?_⟩, by rw [w1 (by omega)]; simp; omega⟩
   · rcases hor2 with e | e
     · rw [e]; exact hor
     · exact .inr (by omega)
   · by_cases e : j = gk
     · rcases hor with e2 | e2
       · exact absurd (e.trans e2) h2
       · omega
     · rw [hrest2 j (by omega) e]; exact hrest j h1 h2
  ·skip
   have hge : i = l + 70 := by have := of_decide_eq_false hb; omega
   refine awp_exit ?_
   try simp only [go_sem, ↓reduceIte, Nat.reduceEqDiff, Nat.reduceLT, Nat.reduceSub, Nat.reduceAdd, Nat.reduceMul]
   refine hK1 _ _ _ ?_
   first | clear hK1 K1 | skip
   refine awp_rq zs [4] ?_
   refine awp_ret ?_
   try simp only [go_sem, ↓reduceIte, Nat.reduceEqDiff, Nat.reduceLT, Nat.reduceSub, Nat.reduceAdd, Nat.reduceMul]
   subst hge
   rw [show l + (l + 70) = 2 * l + 70 by omega] at *
   exact ⟨gk, gv, L, rfl, hn, hgk, hor, hL, hk1, hg1, hrest⟩

/-- what the book's making of a list leaves alone -/
theorem c_law_keep (was : AV) (hwas : was.sz = 1) (A : BkA) (bs : List BS) (m : Nat) (es : List BS) (p : Nat) (ko ver : Nat) (xs : List LEnt) (H : Heap) (n : Nat) (hobj : H A.kb = (some (.arr 0 5 [.agg (bookL A bs m es p)])))
    (hB : H A.kB = some (.arr A.vB 1 (bs.map BS.av))) (hE : H A.kE = some (.arr A.vE 1 (es.map BS.av))) (hko : H ko = some (.arr ver 7 (xs.map lentAV)))
    (n1 : A.kb ≠ A.kB) (n2 : A.kb ≠ A.kE) (n3 : A.kB ≠ A.kE) (n4 : ko ≠ A.kb) (n5 : ko ≠ A.kB) (n6 : ko ≠ A.kE)
    (hnb : bs.length + 3 * xs.length ≤ 1000000000000) (hne : es.length < 1000000000) :
    ACalls Try.prog 25 [.loc A.kb 0 0 0 [], .osl ko ver 0 xs.length] H n fun res H' n' => ∃ vB vE, res = .val (.tup []) ∧ n' = n ∧ H' A.kB = some (.arr vB 1 ((bs ++ xs.flatMap newB).map BS.av)) ∧ H' A.kE = some (.arr vE 1 ((es ++ [BS.mk ko ver xs.length 0 0]).map BS.av)) ∧
      H' A.kb = (some (.arr 0 5 [.agg (bookL { A with vB := vB, vE := vE } (bs ++ xs.flatMap newB) m (es ++ [BS.mk ko ver xs.length 0 0]) p)])) ∧ ∀ j, j ≠ A.kb → j ≠ A.kB → j ≠ A.kE → H' j = H j := by
  simp only [bookL] at hobj
  have q1 : (A.kb = A.kB) = False := by simp [n1]
  have q2 : (A.kB = A.kb) = False := by simp [Ne.symm n1]
  have q3 : (A.kb = A.kE) = False := by simp [n2]
  have q4 : (A.kE = A.kb) = False := by simp [Ne.symm n2]
  have q5 : (A.kB = A.kE) = False := by simp [n3]
  have q6 : (A.kE = A.kB) = False := by simp [Ne.symm n3]
  have hxl : (xs.map lentAV).length = xs.length := List.length_map _
  refine acalls_of_awp Try.func25 rfl Try.ntmps25 (congrArg Array.toList Try.results25) (by simp) ?_
  simp only [go_sem]
  refine awp_seq_k fun K1 hK1 => ?_
  refine awp_rq zs [0, 1, 4] ?_
  refine awp_block ?_
  -- loop 0: head [0, 1, 4]
  refine awp_loop (fun T' H' n' => ∃ (i : Nat), i ≤ xs.length ∧ T' = tl [(0, .loc A.kb 0 0 0 []), (1, .osl ko ver 0 xs.length), (4, .int .i64 i)] ∧ n' = n ∧ H' A.kB = some (.arr (A.vB + i) 1 ((bs ++ (xs.take i).flatMap newB).map BS.av)) ∧ H' A.kb = (some (.arr 0 5 [.agg ([.osl A.kE A.vE 0 es.length, .osl A.kG A.vG 0 p, .osl A.kB (A.vB + i) 0 (bs.length + 3 * i), .osl A.kH A.vH 0 m, .nilsl])])) ∧ ∀ j, j ≠ A.kb → j ≠ A.kB → H' j = H j) (fun T' _ _ => xs.length - iv (T' 4)) ?_ ?_
  ·skip
   exact ⟨0, Nat.zero_le _, rfl, rfl, by simpa using hB, hobj, fun j _ _ => rfl⟩
  intro T1 H1 n1
  rintro ⟨i, hi, rfl, rfl, hB1, hb1, hrest⟩
  refine awp_seq_k fun K2 hK2 => ?_
  refine awp_rq zs [0, 1, 4, 8] ?_
  refine awp_cnd (fun hb => ?_) (fun hb => ?_)
  ·skip
   have hlt : i < xs.length := by simpa using hb
   have hnth : nth (xs.map lentAV) i = lentAV (xs.getD i default) := nth_map lentAV xs i hlt
   have hko1 : H1 ko = some (.arr ver 7 (xs.map lentAV)) := (hrest ko n4 n5).trans hko
   have hsn := newB_snoc xs i hlt
   have hbl : ((bs ++ (xs.take i).flatMap newB).map BS.av).length = bs.length + 3 * i := by rw [List.length_map, List.length_append, newB_len, List.length_take, Nat.min_eq_left hi]
   generalize xs.getD i default = x at *
   refine awp_skip ?_
   try simp only [go_sem, ↓reduceIte, Nat.reduceEqDiff, Nat.reduceLT, Nat.reduceSub, Nat.reduceAdd, Nat.reduceMul]
   refine hK2 _ _ _ ?_
   first | clear hK2 K2 | skip
   refine awp_seq_k fun K3 hK3 => ?_
   refine awp_block ?_
   refine awp_drw1 rfl zs [0, 1, 4] [.m, .m, .q, .q, .q, .m, .m, .q, .q, .q, .m, .m, .q, .q, .q, .m, .m, .q, .q, .q, .q, .w [], .q, .q, .w []] (by kernel_rfl) (fun _ _ _ _ _ h => h) fun K hK => ?_
   try simp only [go_sem, ↓reduceIte, Nat.reduceEqDiff, Nat.reduceLT, Nat.reduceSub, Nat.reduceAdd, Nat.reduceMul, hB1, hb1, hko1, hnth, hxl, Int.toNat_natCast, q1, q2]
   repeat (first | (refine And.intro ?_ ?_; · first | exact ⟨rfl, by decide, by simp [BS.av, newB, AV.sz, AV.memOK, Lp.av]⟩ | (simp; omega) | exact ⟨by rw [hbl]; omega, .inr trivial, by omega, by omega⟩) | refine peel ?_)
   refine hK _ _ _ ?_; clear hK K
   try simp only [go_sem, ↓reduceIte, Nat.reduceEqDiff, Nat.reduceLT, Nat.reduceSub, Nat.reduceAdd, Nat.reduceMul]
   refine hK3 _ _ _ ?_
   first | clear hK3 K3 | skip
   refine awp_reg1 zs [0, 1, 4] fun K hK => ?_
   try simp only [go_sem, ↓reduceIte, Nat.reduceEqDiff, Nat.reduceLT, Nat.reduceSub, Nat.reduceAdd, Nat.reduceMul]
   repeat refine peel ?_
   refine hK _ _ _ ?_; clear hK K
   try simp only [go_sem, ↓reduceIte, Nat.reduceEqDiff, Nat.reduceLT, Nat.reduceSub, Nat.reduceAdd, Nat.reduceMul]
   refine ⟨⟨i + 1, by omega, by rw [w1 (by omega)], ?_, ?_, fun j h1 h2 => by simp [h1, h2]; exact hrest j h1 h2⟩, by rw [w1 (by omega)]; simp; omega⟩
   · have h9 : List.take (bs.length + 3 * i) (List.map BS.av (bs ++ List.flatMap newB (List.take i xs))) = List.map BS.av (bs ++ List.flatMap newB (List.take i xs)) := List.take_of_length_le (by rw [hbl]; omega)
     simp only [q2, if_false, if_true, h9]
     simp [hsn, newB, BS.av, Lp.av, ← Nat.add_assoc]
   · simp [← Nat.add_assoc, Nat.mul_add, q1]
  ·skip
   have hge : i = xs.length := by simp at hb; omega
   have hE1 : H1 A.kE = some (.arr A.vE 1 (es.map BS.av)) := (hrest _ (Ne.symm n2) (Ne.symm n3)).trans hE
   refine awp_exit ?_
   try simp only [go_sem, ↓reduceIte, Nat.reduceEqDiff, Nat.reduceLT, Nat.reduceSub, Nat.reduceAdd, Nat.reduceMul]
   refine hK1 _ _ _ ?_
   first | clear hK1 K1 | skip
   refine awp_reg1 zs [] fun K hK => ?_
   try simp only [go_sem, ↓reduceIte, Nat.reduceEqDiff, Nat.reduceLT, Nat.reduceSub, Nat.reduceAdd, Nat.reduceMul, hB1, hb1, hE1, q3, q4]
   repeat (first | (refine And.intro ?_ ?_; · first | exact ⟨rfl, by decide, by simp [AV.sz, AV.memOK]⟩ | (simp; omega)) | refine peel ?_)
   refine hK _ _ _ ?_; clear hK K
   try simp only [go_sem, ↓reduceIte, Nat.reduceEqDiff, Nat.reduceLT, Nat.reduceSub, Nat.reduceAdd, Nat.reduceMul]
   try simp only [go_sem, ↓reduceIte, Nat.reduceEqDiff, Nat.reduceLT, Nat.reduceSub, Nat.reduceAdd, Nat.reduceMul]
   refine ⟨A.vB + xs.length, A.vE + 1, ?_, ?_, ?_, fun j h1 h2 h3 => ?_⟩
   · subst hge; simp [q2, q5, hB1, List.take_of_length_le]
   · simp [q4, List.take_of_length_le, BS.av]
   · subst hge; simp [q3, bookL, newB_len, -List.length_flatMap]
   · simp [h1, h3]; exact hrest j h1 h2

/-- amid the book's writing -/
structure Sp (was : AV) (H0 : Heap) (n0 : Nat) (tg0 : Nat → Tg) (kb0 : Nat) (bs0 es0 : List BS) (H' : Heap) (n' : Nat) (tg' : Nat → Tg) (A' : BkA) (bs' : List BS) (a m : Nat) (es' : List BS) (c p : Nat) : Prop where
  bk : Bk H' n' tg' A' bs' a m es' c p
  obj : H' A'.kb = (some (.arr 0 5 [.agg (bookL A' bs' m es' p)]))
  kb : A'.kb = kb0
  le : n0 ≤ n'
  lb : bs'.length = bs0.length
  le' : es'.length = es0.length
  free : ∀ j, j < n0 → tg0 j = .free → H' j = H0 j ∧ tg' j = .free
  tag : ∀ j, tg0 j ≠ .free → tg' j = tg0 j

set_option maxHeartbeats 1600000 in
theorem c_law_spoils (was : AV) (hwas : was.sz = 1) (tg : Nat → Tg) (A : BkA) (bs : List BS) (m : Nat) (es : List BS) (p : Nat) (H : Heap) (n : Nat) (hb : Bk H n tg A bs m m es p p) (hobj : H A.kb = (some (.arr 0 5 [.agg (bookL A bs m es p)]))) :
    ACalls Try.prog 26 [.loc A.kb 0 0 0 []] H n fun res H' n' => ∃ tg' A' bs' es', res = .val (.tup []) ∧ Sp was H n tg A.kb bs es H' n' tg' A' bs' bs.length bs.length es' es.length es.length := by
  have hobj9 := hobj
  simp only [bookL] at hobj
  have hnb := hb.nb
  have hne := hb.ne
  refine acalls_of_awp Try.func26 rfl Try.ntmps26 (congrArg Array.toList Try.results26) (by simp) ?_
  simp only [go_sem]
  refine awp_reg zs [0, 2] fun K hK => ?_
  try simp only [go_sem, ↓reduceIte, Nat.reduceEqDiff, Nat.reduceLT, Nat.reduceSub, Nat.reduceAdd, Nat.reduceMul, hobj]
  repeat refine peel ?_
  refine hK _ _ _ ?_; clear hK K
  refine awp_reg zs [0, 2, 3] fun K hK => ?_
  try simp only [go_sem, ↓reduceIte, Nat.reduceEqDiff, Nat.reduceLT, Nat.reduceSub, Nat.reduceAdd, Nat.reduceMul, hobj]
  repeat refine peel ?_
  refine hK _ _ _ ?_; clear hK K
  refine awp_seq_k fun K1 hK1 => ?_
  refine awp_rq zs [0, 2, 3, 4] ?_
  refine awp_block ?_
  -- loop 0: head [0, 2, 3, 4]
  refine awp_loop (fun T' H' n' => ∃ (i : Nat), m ≤ i ∧ i ≤ bs.length ∧ T' = tl [(0, .loc A.kb 0 0 0 []), (2, .int .i64 m), (3, .int .i64 p), (4, .int .i64 i)] ∧ Sp was H n tg A.kb bs es H' n' tg A bs i m es p p) (fun T' _ _ => bs.length - iv (T' 4)) ?_ ?_
  ·skip
   exact ⟨m, Nat.le_refl _, hb.ab, rfl, hb, hobj9, rfl, Nat.le_refl _, rfl, rfl, fun j _ h => ⟨rfl, h⟩, fun j _ => rfl⟩
  intro T1 H1 n1
  rintro ⟨i, hmi, hi, rfl, hS⟩
  have ho1 := hS.obj
  simp only [bookL] at ho1
  have hB1 := hS.bk.lB
  refine awp_seq_k fun K2 hK2 => ?_
  refine awp_reg zs [0, 2, 3, 4, 29] fun K hK => ?_
  try simp only [go_sem, ↓reduceIte, Nat.reduceEqDiff, Nat.reduceLT, Nat.reduceSub, Nat.reduceAdd, Nat.reduceMul, ho1]
  repeat refine peel ?_
  refine hK _ _ _ ?_; clear hK K
  refine awp_cnd (fun hb => ?_) (fun hb => ?_)
  ·skip
   have hlt : i < bs.length := by simpa using hb
   have hnth : nth (bs.map BS.av) i = BS.av (bs.getD i default) := nth_map BS.av bs i hlt
   obtain ⟨ht9, hX, _⟩ := hS.bk.okb i hlt
   obtain ⟨X, hX1, hX2, hX3⟩ := hX (ph0 hmi (Nat.le_refl _))
   obtain ⟨f1, f2, f3, f4, f5⟩ := hS.bk.frame1 (k0 := (bs.getD i default).k) (H' := H1) ht9 (by simp) (fun _ _ => rfl)
   have hmw := markW i (by omega)
   have hlb := hS.bk.lb _ (getD_mem hlt)
   generalize hs9 : bs.getD i default = s at *
   refine awp_skip ?_
   try simp only [go_sem, ↓reduceIte, Nat.reduceEqDiff, Nat.reduceLT, Nat.reduceSub, Nat.reduceAdd, Nat.reduceMul]
   refine hK2 _ _ _ ?_
   first | clear hK2 K2 | skip
   refine awp_seq_k fun K3 hK3 => ?_
   refine awp_block ?_
   refine awp_rq zs [0, 2, 3, 4, 5] ?_
   refine awp_block ?_
   -- loop 1: head [0, 2, 3, 4, 5]
   refine awp_loop (fun T' H' n' => ∃ (j : Nat), j ≤ s.l ∧ T' = tl [(0, .loc A.kb 0 0 0 []), (2, .int .i64 m), (3, .int .i64 p), (4, .int .i64 i), (5, .int .i64 j)] ∧ n' = n1 ∧ H' s.k = some (.arr s.v 1 (List.replicate j (mkB i) ++ X.drop j)) ∧ ∀ k, k ≠ s.k → H' k = H1 k) (fun T' _ _ => s.l - iv (T' 5)) ?_ ?_
   ·skip
    exact ⟨0, Nat.zero_le _, rfl, rfl, by simpa using hX1, fun k _ => rfl⟩
   intro T1 H1 n1
   rintro ⟨j, hj, rfl, rfl, hk1, hrest⟩
   have ne9 : ∀ {k t}, tg k = t → t ≠ .b i → k ≠ s.k := fun {k t} e1 e2 e => e2 (by rw [← e1, e]; exact ht9)
   have ho2 := (hrest _ (ne9 hS.bk.tb (by simp))).trans ho1
   have hB2 := (hrest _ (ne9 hS.bk.tB (by simp))).trans hB1
   have q1 : (s.k = A.kb) = False := by simp; exact Ne.symm (ne9 hS.bk.tb (by simp))
   refine awp_seq_k fun K4 hK4 => ?_
   refine awp_reg zs [0, 2, 3, 4, 5, 41] fun K hK => ?_
   try simp only [go_sem, ↓reduceIte, Nat.reduceEqDiff, Nat.reduceLT, Nat.reduceSub, Nat.reduceAdd, Nat.reduceMul, ho2, hB2, hnth, Int.toNat_natCast, BS.av]
   repeat refine peel ?_
   refine hK _ _ _ ?_; clear hK K
   refine awp_cnd (fun hb => ?_) (fun hb => ?_)
   ·skip
    have hlj : j < s.l := by simpa using hb
    have hfl := fill_len (mk := mkB i) (X := X) (j := j) (by omega)
    refine awp_skip ?_
    try simp only [go_sem, ↓reduceIte, Nat.reduceEqDiff, Nat.reduceLT, Nat.reduceSub, Nat.reduceAdd, Nat.reduceMul]
    refine hK4 _ _ _ ?_
    first | clear hK4 K4 | skip
    refine awp_seq_k fun K5 hK5 => ?_
    refine awp_block ?_
    refine awp_reg1 zs [0, 2, 3, 4, 5] fun K hK => ?_
    try simp only [go_sem, ↓reduceIte, Nat.reduceEqDiff, Nat.reduceLT, Nat.reduceSub, Nat.reduceAdd, Nat.reduceMul, ho2, hB2, hnth, Int.toNat_natCast, BS.av, hk1, hmw]
    repeat (first | (refine And.intro ?_ ?_; · first | exact ⟨by rw [hfl]; omega, fill_nth (by omega) hX3⟩) | refine peel ?_)
    refine hK _ _ _ ?_; clear hK K
    try simp only [go_sem, ↓reduceIte, Nat.reduceEqDiff, Nat.reduceLT, Nat.reduceSub, Nat.reduceAdd, Nat.reduceMul]
    refine hK5 _ _ _ ?_
    first | clear hK5 K5 | skip
    refine awp_reg1 zs [0, 2, 3, 4, 5] fun K hK => ?_
    try simp only [go_sem, ↓reduceIte, Nat.reduceEqDiff, Nat.reduceLT, Nat.reduceSub, Nat.reduceAdd, Nat.reduceMul]
    repeat refine peel ?_
    refine hK _ _ _ ?_; clear hK K
    try simp only [go_sem, ↓reduceIte, Nat.reduceEqDiff, Nat.reduceLT, Nat.reduceSub, Nat.reduceAdd, Nat.reduceMul]
    refine ⟨⟨j + 1, by omega, by rw [w1 (by omega)], ?_, fun k hk => by rw [if_neg hk]; exact hrest k hk⟩, by rw [w1 (by omega)]; simp; omega⟩
    rw [← fill_step (by omega)]; rfl
   ·skip
    have hje : j = s.l := by simp at hb; omega
    subst hje
    rw [← hX2, fill_all] at hk1
    refine awp_exit ?_
    try simp only [go_sem, ↓reduceIte, Nat.reduceEqDiff, Nat.reduceLT, Nat.reduceSub, Nat.reduceAdd, Nat.reduceMul]
    refine hK3 _ _ _ ?_
    first | clear hK3 K3 | skip
    refine awp_reg1 zs [0, 2, 3, 4] fun K hK => ?_
    try simp only [go_sem, ↓reduceIte, Nat.reduceEqDiff, Nat.reduceLT, Nat.reduceSub, Nat.reduceAdd, Nat.reduceMul]
    repeat refine peel ?_
    refine hK _ _ _ ?_; clear hK K
    try simp only [go_sem, ↓reduceIte, Nat.reduceEqDiff, Nat.reduceLT, Nat.reduceSub, Nat.reduceAdd, Nat.reduceMul]
    refine ⟨⟨i + 1, by omega, by omega, by rw [w1 (by omega)], hS.bk.fill hlt (by rw [hs9, ← hX2]; exact hk1) (by rw [hs9]; exact hrest), (hrest _ (ne9 hS.bk.tb (by simp))).trans hS.obj, hS.kb, hS.le, rfl, rfl, fun j h1 h2 => ⟨(hrest j (ne9 h2 (by simp))).trans (hS.free j h1 h2).1, h2⟩, fun j _ => rfl⟩, by rw [w1 (by omega)]; simp; omega⟩
  ·skip
   have hge : i = bs.length := by simp at hb; omega
   subst hge
   refine awp_exit ?_
   try simp only [go_sem, ↓reduceIte, Nat.reduceEqDiff, Nat.reduceLT, Nat.reduceSub, Nat.reduceAdd, Nat.reduceMul]
   refine hK1 _ _ _ ?_
   first | clear hK1 K1 | skip
   refine awp_seq_k fun K6 hK6 => ?_
   refine awp_rq zs [0, 2, 3, 6] ?_
   refine awp_block ?_
   -- loop 2: head [0, 2, 3, 6]
   refine awp_loop (fun T' H' n' => ∃ (i : Nat), p ≤ i ∧ i ≤ es.length ∧ T' = tl [(0, .loc A.kb 0 0 0 []), (2, .int .i64 m), (3, .int .i64 p), (6, .int .i64 i)] ∧ Sp was H n tg A.kb bs es H' n' tg A bs bs.length m es i p) (fun T' _ _ => es.length - iv (T' 6)) ?_ ?_
   ·skip
    exact ⟨p, Nat.le_refl _, hS.bk.ce, rfl, hS⟩
   intro T1 H1 n1
   rintro ⟨i, hmi, hi, rfl, hS⟩
   have ho1 := hS.obj
   simp only [bookL] at ho1
   have hE1 := hS.bk.lE
   refine awp_seq_k fun K7 hK7 => ?_
   refine awp_reg zs [0, 2, 3, 6, 64] fun K hK => ?_
   try simp only [go_sem, ↓reduceIte, Nat.reduceEqDiff, Nat.reduceLT, Nat.reduceSub, Nat.reduceAdd, Nat.reduceMul, ho1]
   repeat refine peel ?_
   refine hK _ _ _ ?_; clear hK K
   refine awp_cnd (fun hb => ?_) (fun hb => ?_)
   ·skip
    have hlt : i < es.length := by simpa using hb
    have hnth : nth (es.map BS.av) i = BS.av (es.getD i default) := nth_map BS.av es i hlt
    obtain ⟨ht9, hX, _⟩ := hS.bk.oke i hlt
    obtain ⟨X, hX1, hX2, hX3⟩ := hX (ph0 hmi (Nat.le_refl _))
    have hmw : IntKind.i64.wrap (-10 - (i : Int)) = -10 - (i : Int) := w64 (by omega) (by omega)
    have hlb := hS.bk.le _ (getD_mem hlt)
    generalize hs9 : es.getD i default = s at *
    refine awp_skip ?_
    try simp only [go_sem, ↓reduceIte, Nat.reduceEqDiff, Nat.reduceLT, Nat.reduceSub, Nat.reduceAdd, Nat.reduceMul]
    refine hK7 _ _ _ ?_
    first | clear hK7 K7 | skip
    refine awp_seq_k fun K8 hK8 => ?_
    refine awp_block ?_
    refine awp_rq zs [0, 2, 3, 6, 7] ?_
    refine awp_block ?_
    -- loop 3: head [0, 2, 3, 6, 7]
    refine awp_loop (fun T' H' n' => ∃ (j : Nat), j ≤ s.l ∧ T' = tl [(0, .loc A.kb 0 0 0 []), (2, .int .i64 m), (3, .int .i64 p), (6, .int .i64 i), (7, .int .i64 j)] ∧ n' = n1 ∧ H' s.k = some (.arr s.v 7 (List.replicate j (mkE i) ++ X.drop j)) ∧ ∀ k, k ≠ s.k → H' k = H1 k) (fun T' _ _ => s.l - iv (T' 7)) ?_ ?_
    ·skip
     exact ⟨0, Nat.zero_le _, rfl, rfl, by simpa using hX1, fun k _ => rfl⟩
    intro T1 H1 n1
    rintro ⟨j, hj, rfl, rfl, hk1, hrest⟩
    have ne9 : ∀ {k t}, tg k = t → t ≠ .e i → k ≠ s.k := fun {k t} e1 e2 e => e2 (by rw [← e1, e]; exact ht9)
    have ho2 := (hrest _ (ne9 hS.bk.tb (by simp))).trans ho1
    have hE2 := (hrest _ (ne9 hS.bk.tE (by simp))).trans hE1
    refine awp_seq_k fun K9 hK9 => ?_
    refine awp_reg zs [0, 2, 3, 6, 7, 76] fun K hK => ?_
    try simp only [go_sem, ↓reduceIte, Nat.reduceEqDiff, Nat.reduceLT, Nat.reduceSub, Nat.reduceAdd, Nat.reduceMul, ho2, hE2, hnth, Int.toNat_natCast, BS.av]
    repeat refine peel ?_
    refine hK _ _ _ ?_; clear hK K
    refine awp_cnd (fun hb => ?_) (fun hb => ?_)
    ·skip
     have hlj : j < s.l := by simpa using hb
     have hfl := fill_len (mk := mkE i) (X := X) (j := j) (by omega)
     refine awp_skip ?_
     try simp only [go_sem, ↓reduceIte, Nat.reduceEqDiff, Nat.reduceLT, Nat.reduceSub, Nat.reduceAdd, Nat.reduceMul]
     refine hK9 _ _ _ ?_
     first | clear hK9 K9 | skip
     refine awp_seq_k fun K10 hK10 => ?_
     refine awp_block ?_
     refine awp_reg1 zs [0, 2, 3, 6, 7] fun K hK => ?_
     try simp only [go_sem, ↓reduceIte, Nat.reduceEqDiff, Nat.reduceLT, Nat.reduceSub, Nat.reduceAdd, Nat.reduceMul, ho2, hE2, hnth, Int.toNat_natCast, BS.av, hk1, hmw]
     repeat (first | (refine And.intro ?_ ?_; · first | exact ⟨by rw [hfl]; omega, fill_nth (by omega) hX3⟩) | refine peel ?_)
     refine hK _ _ _ ?_; clear hK K
     try simp only [go_sem, ↓reduceIte, Nat.reduceEqDiff, Nat.reduceLT, Nat.reduceSub, Nat.reduceAdd, Nat.reduceMul]
     refine hK10 _ _ _ ?_
     first | clear hK10 K10 | skip
     refine awp_reg1 zs [0, 2, 3, 6, 7] fun K hK => ?_
     try simp only [go_sem, ↓reduceIte, Nat.reduceEqDiff, Nat.reduceLT, Nat.reduceSub, Nat.reduceAdd, Nat.reduceMul]
     repeat refine peel ?_
     refine hK _ _ _ ?_; clear hK K
     try simp only [go_sem, ↓reduceIte, Nat.reduceEqDiff, Nat.reduceLT, Nat.reduceSub, Nat.reduceAdd, Nat.reduceMul]
     refine ⟨⟨j + 1, by omega, by rw [w1 (by omega)], ?_, fun k hk => by rw [if_neg hk]; exact hrest k hk⟩, by rw [w1 (by omega)]; simp; omega⟩
     rw [← fill_step (by omega)]; rfl
    ·skip
     have hje : j = s.l := by simp at hb; omega
     subst hje
     rw [← hX2, fill_all] at hk1
     refine awp_exit ?_
     try simp only [go_sem, ↓reduceIte, Nat.reduceEqDiff, Nat.reduceLT, Nat.reduceSub, Nat.reduceAdd, Nat.reduceMul]
     refine hK8 _ _ _ ?_
     first | clear hK8 K8 | skip
     refine awp_reg1 zs [0, 2, 3, 6] fun K hK => ?_
     try simp only [go_sem, ↓reduceIte, Nat.reduceEqDiff, Nat.reduceLT, Nat.reduceSub, Nat.reduceAdd, Nat.reduceMul]
     repeat refine peel ?_
     refine hK _ _ _ ?_; clear hK K
     try simp only [go_sem, ↓reduceIte, Nat.reduceEqDiff, Nat.reduceLT, Nat.reduceSub, Nat.reduceAdd, Nat.reduceMul]
     refine ⟨⟨i + 1, by omega, by omega, by rw [w1 (by omega)], hS.bk.fillE hlt (by rw [hs9, ← hX2]; exact hk1) (by rw [hs9]; exact hrest), (hrest _ (ne9 hS.bk.tb (by simp))).trans hS.obj, hS.kb, hS.le, rfl, rfl, fun j h1 h2 => ⟨(hrest j (ne9 h2 (by simp))).trans (hS.free j h1 h2).1, h2⟩, fun j _ => rfl⟩, by rw [w1 (by omega)]; simp; omega⟩
   ·skip
    have hge : i = es.length := by simp at hb; omega
    subst hge
    refine awp_exit ?_
    try simp only [go_sem, ↓reduceIte, Nat.reduceEqDiff, Nat.reduceLT, Nat.reduceSub, Nat.reduceAdd, Nat.reduceMul]
    refine hK6 _ _ _ ?_
    first | clear hK6 K6 | skip
    refine awp_seq_k fun K11 hK11 => ?_
    refine awp_rq zs [0, 3, 8] ?_
    refine awp_block ?_
    -- loop 4: head [0, 3, 8]
    refine awp_loop (fun T' H' n' => ∃ (i : Nat) (tg' : Nat → Tg) (A' : BkA) (bs' : List BS), m ≤ i ∧ i ≤ bs.length ∧ T' = tl [(0, .loc A.kb 0 0 0 []), (3, .int .i64 p), (8, .int .i64 i)] ∧ Sp was H n tg A.kb bs es H' n' tg' A' bs' bs.length i es es.length p) (fun T' _ _ => bs.length - iv (T' 8)) ?_ ?_
    ·skip
     exact ⟨m, tg, A, bs, Nat.le_refl _, by have := hS.bk.ma; omega, rfl, hS⟩
    intro T1 H1 n1
    rintro ⟨i, tg', A', bs', hmi, hi, rfl, hS⟩
    have hkb := hS.kb
    rw [← hkb]
    have ho1 := hS.obj
    simp only [bookL] at ho1
    have hB1 := hS.bk.lB
    have hH1 := hS.bk.lH
    have hlb4 := hS.lb
    have qH1 : (A'.kb = A'.kH) = False := by simp; intro e; have h1 := hS.bk.tb; rw [e, hS.bk.tH] at h1; simp at h1
    have qH2 : (A'.kH = A'.kb) = False := by simp; intro e; have h1 := hS.bk.tb; rw [← e, hS.bk.tH] at h1; simp at h1
    have r1 : (0 : Nat) = 0 := rfl
    have r2 : (0 : Nat) = 0 := rfl
    refine awp_seq_k fun K12 hK12 => ?_
    refine awp_reg zs [0, 3, 8, 98] fun K hK => ?_
    try simp only [go_sem, ↓reduceIte, Nat.reduceEqDiff, Nat.reduceLT, Nat.reduceSub, Nat.reduceAdd, Nat.reduceMul, ho1]
    repeat refine peel ?_
    refine hK _ _ _ ?_; clear hK K
    refine awp_cnd (fun hb => ?_) (fun hb => ?_)
    ·skip
     have hlt : i < bs'.length := by simpa using hb
     have hnth : nth (bs'.map BS.av) i = BS.av (bs'.getD i default) := nth_map BS.av bs' i hlt
     obtain ⟨ht9, _, hX, _⟩ := hS.bk.okb i hlt
     have hX := hX (ph1 (Nat.le_refl _) (by omega))
     have hmw := markW i (by omega)
     have hlb := hS.bk.lb _ (getD_mem hlt)
     have hskn : (bs'.getD i default).k < n1 := hS.bk.lt _ (by rw [ht9]; simp)
     have hgl : ((bs'.take i).map BS.gav).length = i := by simp; omega
     generalize hs9 : bs'.getD i default = s at *
     have ne9 : ∀ {k t}, tg' k = t → t ≠ .b i → k ≠ s.k := fun {k t} e1 e2 e => e2 (by rw [← e1, e]; exact ht9)
     refine awp_skip ?_
     try simp only [go_sem, ↓reduceIte, Nat.reduceEqDiff, Nat.reduceLT, Nat.reduceSub, Nat.reduceAdd, Nat.reduceMul]
     refine hK12 _ _ _ ?_
     first | clear hK12 K12 | skip
     refine awp_seq_k fun K13 hK13 => ?_
     refine awp_block ?_
     refine awp_drp1 rfl zs [0, 3, 8] [.m, .m, .q, .q, .q, .m, .q, .q, .q, .m, .q, .q, .m, .q, .q, .q, .w [2, 3, 4], .q, .w [], .q, .q, .w []] [0, 1, 2, 3, 4, 5, 6, 7, 8, 9, 10, 11, 12, 13, 14, 15, 16, 17, 18, 19, 20, 21] [0, 1, 2, 3, 4, 5, 6, 7, 8, 9, 10, 11, 12, 13, 14, 15, 16, 17, 18, 19, 20, 21] (by kernel_rfl) (fun _ _ _ _ _ h => h) fun K hK => ?_
     try simp only [go_sem, ↓reduceIte, Nat.reduceEqDiff, Nat.reduceLT, Nat.reduceSub, Nat.reduceAdd, Nat.reduceMul, ho1, hB1, hH1, hnth, Int.toNat_natCast, BS.av, hmw, r1, r2, qH1, qH2]
     repeat (first | (refine And.intro ?_ ?_; · first | exact ⟨rfl, by decide, by simp [AV.sz, AV.memOK]⟩ | exact ⟨by rw [hgl]; omega, .inr trivial, by omega, by omega⟩ | exact ⟨by omega, by omega⟩) | refine peel ?_)
     refine callK_useK (args' := [.osl s.k s.v 0 s.l, .int .u8 ((1 + i % 250 : Nat) : Int)]) Try.func48 rfl rfl rfl (c_law_grown s.k s.v s.l (1 + i % 250) hlb _ _ hskn hX) ?_ ?_
     rotate_left
     · intro p H' n' h; obtain ⟨_, _, _, hx, _⟩ := h; cases hx
     rintro r H2 n2 ⟨gk, gv, L, hr2, hn2, hgk2, hor2, hL2, hk2, hg2, hrest2⟩
     cases hr2
     have r1 := (hrest2 _ (hS.bk.lt _ (by rw [hS.bk.tb]; simp)) (ne9 hS.bk.tb (by simp))).trans ho1
     have r2 := (hrest2 _ (hS.bk.lt _ (by rw [hS.bk.tH]; simp)) (ne9 hS.bk.tH (by simp))).trans hH1
     try simp only [go_sem, ↓reduceIte, Nat.reduceEqDiff, Nat.reduceLT, Nat.reduceSub, Nat.reduceAdd, Nat.reduceMul, ho1, hB1, hH1, hnth, Int.toNat_natCast, BS.av, hmw, r1, r2, qH1, qH2]
     repeat (first | (refine And.intro ?_ ?_; · first | exact ⟨rfl, by decide, by simp [AV.sz, AV.memOK]⟩ | exact ⟨by rw [hgl]; omega, .inr trivial, by omega, by omega⟩ | exact ⟨by omega, by omega⟩) | refine peel ?_)
     refine hK _ _ _ ?_; clear hK K
     try simp only [go_sem, ↓reduceIte, Nat.reduceEqDiff, Nat.reduceLT, Nat.reduceSub, Nat.reduceAdd, Nat.reduceMul]
     refine hK13 _ _ _ ?_
     first | clear hK13 K13 | skip
     refine awp_reg1 zs [0, 3, 8] fun K hK => ?_
     try simp only [go_sem, ↓reduceIte, Nat.reduceEqDiff, Nat.reduceLT, Nat.reduceSub, Nat.reduceAdd, Nat.reduceMul]
     repeat refine peel ?_
     refine hK _ _ _ ?_; clear hK K
     try simp only [go_sem, ↓reduceIte, Nat.reduceEqDiff, Nat.reduceLT, Nat.reduceSub, Nat.reduceAdd, Nat.reduceMul]
     have hgt : tg' gk = .b i ∨ tg' gk = .free := by rcases hor2 with e | e; rw [e]; exact .inl ht9; exact .inr (Classical.byContradiction fun hne => by have := hS.bk.lt gk hne; omega)
     refine ⟨⟨i + 1, tgPut tg' gk (.b i), { A' with vH := A'.vH + 1 }, bs'.set i { s with gk := gk, gv := gv }, by omega, by omega, by rw [w1 (by omega)], ?_⟩, by rw [w1 (by omega)]; simp; omega⟩
     have hH9 : ∀ k, k ≠ A'.kH → k ≠ A'.kb → ∀ o o', ((H2.put A'.kH o).put A'.kb o') k = H2 k := fun k h1 h2 o o' => (Heap.put_ne _ _ h2).trans (Heap.put_ne _ _ h1)
     have nsk : s.k ≠ A'.kH ∧ s.k ≠ A'.kb := ⟨Ne.symm (ne9 hS.bk.tH (by simp)), Ne.symm (ne9 hS.bk.tb (by simp))⟩
     have ngk : gk ≠ A'.kH ∧ gk ≠ A'.kb := ⟨fun e => by rw [e, hS.bk.tH] at hgt; simp at hgt, fun e => by rw [e, hS.bk.tb] at hgt; simp at hgt⟩
     refine ⟨?_, ?_, rfl, by have := hS.le; omega, by simp [hS.lb], rfl, fun j h1 h2 => ?_, fun j hj => ?_⟩
     · have := hS.bk.grow (H' := (H2.put A'.kH (some (.arr (A'.vH + 1) 1 (List.take i (List.map BS.gav (List.take i bs')) ++ [.osl gk gv 0 (2 * s.l + 70)])))).put A'.kb (some (.arr 0 5 [.agg ([.osl A'.kE A'.vE 0 es.length, .osl A'.kG A'.vG 0 p, .osl A'.kB A'.vB 0 bs'.length, .osl A'.kH (A'.vH + 1) 0 (i + 1), .nilsl])]))) (n' := n2) (m := i) (by omega) (by omega) (gk := gk) (gv := gv) (L := L) (by rw [hs9]; exact hor2) hgk2 (by rw [hs9]; exact hL2) (by rw [hs9, hH9 _ nsk.1 nsk.2]; exact hk2) (by rw [hs9, hH9 _ ngk.1 ngk.2]; exact hg2) (vH := A'.vH + 1) (by rw [hs9, Heap.put_ne _ _ (by simpa using qH2), Heap.put_same, List.take_of_length_le (by rw [hgl]; omega)]) (fun k h1 h2 h3 h4 => by rw [hs9] at h2; rw [hH9 _ h3 h4]; exact hrest2 k (hS.bk.lt k h1) h2)
       rw [hs9] at this
       exact this
     · simp [bookL, Heap.put]
     · obtain ⟨g1, g2⟩ := hS.free j h1 h2
       refine ⟨?_, ?_⟩
       · rw [hH9 _ (fun e => by rw [e, hS.bk.tH] at g2; simp at g2) (fun e => by rw [e, hS.bk.tb] at g2; simp at g2), hrest2 j (by have := hS.le; omega) (ne9 g2 (by simp))]; exact g1
       · unfold tgPut; rw [if_neg (fun e => ?_)]; exact g2
         rcases hor2 with e2 | e2
         · exact ne9 g2 (by simp) (e.trans e2)
         · have := hS.le; omega
     · rw [tgPut_keep hgt (by rw [hS.tag j hj]; exact hj)]; exact hS.tag j hj
    ·skip
     have hge : i = bs.length := by simp at hb; omega
     subst hge
     refine awp_exit ?_
     try simp only [go_sem, ↓reduceIte, Nat.reduceEqDiff, Nat.reduceLT, Nat.reduceSub, Nat.reduceAdd, Nat.reduceMul]
     refine hK11 _ _ _ ?_
     first | clear hK11 K11 | skip
     refine awp_rq zs [0, 9] ?_
     refine awp_block ?_
     -- loop 5: head [0, 9]
     refine awp_loop (fun T' H' n' => ∃ (i : Nat) (tg' : Nat → Tg) (A' : BkA) (bs' es' : List BS), p ≤ i ∧ i ≤ es.length ∧ T' = tl [(0, .loc A.kb 0 0 0 []), (9, .int .i64 i)] ∧ Sp was H n tg A.kb bs es H' n' tg' A' bs' bs.length bs.length es' es.length i) (fun T' _ _ => es.length - iv (T' 9)) ?_ ?_
     ·skip
      rw [hkb]; exact ⟨p, tg', A', bs', es, Nat.le_refl _, by have := hS.bk.pc; omega, rfl, hS⟩
     intro T1 H1 n1
     rintro ⟨i, tg', A', bs', es', hmi, hi, rfl, hS⟩
     have hkb := hS.kb
     rw [← hkb]
     have ho1 := hS.obj
     simp only [bookL] at ho1
     have hE1 := hS.bk.lE
     have hG1 := hS.bk.lG
     have hle4 := hS.le'
     have qG1 : (A'.kb = A'.kG) = False := by simp; intro e; have h1 := hS.bk.tb; rw [e, hS.bk.tG] at h1; simp at h1
     have qG2 : (A'.kG = A'.kb) = False := by simp; intro e; have h1 := hS.bk.tb; rw [← e, hS.bk.tG] at h1; simp at h1
     refine awp_seq_k fun K14 hK14 => ?_
     refine awp_reg zs [0, 9, 129] fun K hK => ?_
     try simp only [go_sem, ↓reduceIte, Nat.reduceEqDiff, Nat.reduceLT, Nat.reduceSub, Nat.reduceAdd, Nat.reduceMul, ho1]
     repeat refine peel ?_
     refine hK _ _ _ ?_; clear hK K
     refine awp_cnd (fun hb => ?_) (fun hb => ?_)
     ·skip
      have hlt : i < es'.length := by simpa using hb
      have hnth : nth (es'.map BS.av) i = BS.av (es'.getD i default) := nth_map BS.av es' i hlt
      obtain ⟨ht9, _, hX, _⟩ := hS.bk.oke i hlt
      have hX := hX (ph1 (Nat.le_refl _) (by omega))
      have hmw : IntKind.i64.wrap (-10 - (i : Int)) = -10 - (i : Int) := w64 (by omega) (by omega)
      have hlb := hS.bk.le _ (getD_mem hlt)
      have hskn : (es'.getD i default).k < n1 := hS.bk.lt _ (by rw [ht9]; simp)
      have hgl : ((es'.take i).map ES.gav).length = i := by simp; omega
      generalize hs9 : es'.getD i default = s at *
      have ne9 : ∀ {k t}, tg' k = t → t ≠ .e i → k ≠ s.k := fun {k t} e1 e2 e => e2 (by rw [← e1, e]; exact ht9)
      have hw1 : IntKind.i64.wrap (2 * (s.l : Int)) = 2 * (s.l : Int) := w64 (by omega) (by omega)
      have hw2 : IntKind.i64.wrap (2 * (s.l : Int) + 20) = 2 * (s.l : Int) + 20 := w64 (by omega) (by omega)
      refine awp_skip ?_
      try simp only [go_sem, ↓reduceIte, Nat.reduceEqDiff, Nat.reduceLT, Nat.reduceSub, Nat.reduceAdd, Nat.reduceMul]
      refine hK14 _ _ _ ?_
      first | clear hK14 K14 | skip
      refine awp_seq_k fun K15 hK15 => ?_
      refine awp_block ?_
      refine awp_reg zs [0, 9, 10] fun K hK => ?_
      try simp only [go_sem, ↓reduceIte, Nat.reduceEqDiff, Nat.reduceLT, Nat.reduceSub, Nat.reduceAdd, Nat.reduceMul, ho1, hE1, hnth, Int.toNat_natCast, BS.av]
      repeat refine peel ?_
      refine hK _ _ _ ?_; clear hK K
      refine awp_seq_k fun K16 hK16 => ?_
      refine awp_rq zs [0, 9, 10, 11] ?_
      refine awp_block ?_
      -- loop 6: head [0, 9, 10, 11]
      refine awp_loop (fun T' H' n' => ∃ (j gk gv L : Nat), j ≤ 2 * s.l + 20 ∧ T' = tl [(0, .loc A'.kb 0 0 0 []), (9, .int .i64 i), (10, .osl gk gv 0 (s.l + j)), (11, .int .i64 j)] ∧ n1 ≤ n' ∧ gk < n' ∧ (gk = s.k ∨ n1 ≤ gk) ∧ s.l ≤ L ∧ H' s.k = some (.arr s.v 7 (List.replicate L (mkE i))) ∧ H' gk = some (.arr gv 7 (List.replicate (s.l + j) (mkE i))) ∧ ∀ k, k < n1 → k ≠ s.k → H' k = H1 k) (fun T' _ _ => 2 * s.l + 20 - iv (T' 11)) ?_ ?_
      ·skip
       exact ⟨0, s.k, s.v, s.l, by omega, rfl, Nat.le_refl _, hskn, .inl rfl, Nat.le_refl _, hX, hX, fun k _ _ => rfl⟩
      intro T1 H1 n1
      rintro ⟨j, gk, gv, L, hj, rfl, hn6, hgk, hor, hL, hk1, hg1, hrest⟩
      have ho2 := (hrest _ (hS.bk.lt _ (by rw [hS.bk.tb]; simp)) (ne9 hS.bk.tb (by simp))).trans ho1
      have hE2 := (hrest _ (hS.bk.lt _ (by rw [hS.bk.tE]; simp)) (ne9 hS.bk.tE (by simp))).trans hE1
      have hG2 := (hrest _ (hS.bk.lt _ (by rw [hS.bk.tG]; simp)) (ne9 hS.bk.tG (by simp))).trans hG1
      refine awp_seq_k fun K17 hK17 => ?_
      refine awp_reg zs [0, 9, 10, 11, 150] fun K hK => ?_
      try simp only [go_sem, ↓reduceIte, Nat.reduceEqDiff, Nat.reduceLT, Nat.reduceSub, Nat.reduceAdd, Nat.reduceMul, ho2, hE2, hnth, Int.toNat_natCast, BS.av, hw1, hw2]
      repeat refine peel ?_
      refine hK _ _ _ ?_; clear hK K
      refine awp_cnd (fun hb => ?_) (fun hb => ?_)
      ·skip
       have hlj : j < 2 * s.l + 20 := by have := of_decide_eq_true hb; omega
       refine awp_skip ?_
       try simp only [go_sem, ↓reduceIte, Nat.reduceEqDiff, Nat.reduceLT, Nat.reduceSub, Nat.reduceAdd, Nat.reduceMul]
       refine hK17 _ _ _ ?_
       first | clear hK17 K17 | skip
       refine awp_seq_k fun K18 hK18 => ?_
       refine awp_block ?_
       refine awp_reg_app1 zs [0, 9, 10, 11] 5 rfl (by first | trivial | (show _ < _; decide)) fun K hK => ?_
       try simp only [go_sem, ↓reduceIte, Nat.reduceEqDiff, Nat.reduceLT, Nat.reduceSub, Nat.reduceAdd, Nat.reduceMul, hg1, hmw]
       repeat (first | (refine And.intro ?_ ?_; · first | exact ⟨rfl, by decide, by simp [AV.sz, AV.szs, AV.memOK]⟩ | exact ⟨by simp, .inr trivial, by omega, by omega⟩) | refine peel ?_)
       refine AppK.all hgk ?_ hg1
       intro gk2 gv2 H2 n2 hn2 hgk2 hor2 hg2 hk2 hrest2
       try simp only [go_sem, ↓reduceIte, Nat.reduceEqDiff, Nat.reduceLT, Nat.reduceSub, Nat.reduceAdd, Nat.reduceMul, hg1, hmw]
       repeat (first | (refine And.intro ?_ ?_; · first | exact ⟨rfl, by decide, by simp [AV.sz, AV.szs, AV.memOK]⟩ | exact ⟨by simp, .inr trivial, by omega, by omega⟩) | refine peel ?_)
       refine hK _ _ _ ?_; clear hK K
       try simp only [go_sem, ↓reduceIte, Nat.reduceEqDiff, Nat.reduceLT, Nat.reduceSub, Nat.reduceAdd, Nat.reduceMul]
       refine hK18 _ _ _ ?_
       first | clear hK18 K18 | skip
       refine awp_reg1 zs [0, 9, 10, 11] fun K hK => ?_
       try simp only [go_sem, ↓reduceIte, Nat.reduceEqDiff, Nat.reduceLT, Nat.reduceSub, Nat.reduceAdd, Nat.reduceMul]
       repeat refine peel ?_
       refine hK _ _ _ ?_; clear hK K
       try simp only [go_sem, ↓reduceIte, Nat.reduceEqDiff, Nat.reduceLT, Nat.reduceSub, Nat.reduceAdd, Nat.reduceMul]
       obtain ⟨L2, hL2, hk3⟩ := grow_old (mk := mkE i) (l := s.l) (by omega) hk1 hL hg1 hk2 hrest2
       refine ⟨⟨j + 1, gk2, gv2, L2, by omega, by rw [w1 (by omega)]; simp [Nat.add_assoc], by omega, hgk2, ?_, hL2, hk3, by rw [hg2, ← Nat.add_assoc, List.replicate_succ']; rfl, fun k h1 h2 => ?_⟩, by rw [w1 (by omega)]; simp; omega⟩
       · rcases hor2 with e | e
         · rw [e]; exact hor
         · exact .inr (by omega)
       · by_cases e : k = gk
         · rcases hor with e2 | e2
           · exact absurd (e.trans e2) h2
           · omega
         · rw [hrest2 k (by omega) e]; exact hrest k h1 h2
      ·skip
       have hge : j = 2 * s.l + 20 := by have := of_decide_eq_false hb; omega
       subst hge
       rw [show s.l + (2 * s.l + 20) = 3 * s.l + 20 by omega] at *
       refine awp_exit ?_
       try simp only [go_sem, ↓reduceIte, Nat.reduceEqDiff, Nat.reduceLT, Nat.reduceSub, Nat.reduceAdd, Nat.reduceMul]
       refine hK16 _ _ _ ?_
       first | clear hK16 K16 | skip
       refine awp_reg1 zs [0, 9] fun K hK => ?_
       try simp only [go_sem, ↓reduceIte, Nat.reduceEqDiff, Nat.reduceLT, Nat.reduceSub, Nat.reduceAdd, Nat.reduceMul, ho2, hG2, qG1, qG2]
       repeat (first | (refine And.intro ?_ ?_; · first | exact ⟨rfl, by decide, by simp [AV.sz, AV.memOK]⟩ | exact ⟨by rw [hgl]; omega, .inr trivial, by omega, by omega⟩ | exact ⟨by omega, by omega⟩) | refine peel ?_)
       refine hK _ _ _ ?_; clear hK K
       try simp only [go_sem, ↓reduceIte, Nat.reduceEqDiff, Nat.reduceLT, Nat.reduceSub, Nat.reduceAdd, Nat.reduceMul]
       refine hK15 _ _ _ ?_
       first | clear hK15 K15 | skip
       refine awp_reg1 zs [0, 9] fun K hK => ?_
       try simp only [go_sem, ↓reduceIte, Nat.reduceEqDiff, Nat.reduceLT, Nat.reduceSub, Nat.reduceAdd, Nat.reduceMul]
       repeat refine peel ?_
       refine hK _ _ _ ?_; clear hK K
       try simp only [go_sem, ↓reduceIte, Nat.reduceEqDiff, Nat.reduceLT, Nat.reduceSub, Nat.reduceAdd, Nat.reduceMul]
       have hgt : tg' gk = .e i ∨ tg' gk = .free := by rcases hor with e | e; rw [e]; exact .inl ht9; exact .inr (Classical.byContradiction fun hne => by have := hS.bk.lt gk hne; omega)
       have hH9 : ∀ k, k ≠ A'.kG → k ≠ A'.kb → ∀ (G : Heap) o o', ((G.put A'.kG o).put A'.kb o') k = G k := fun k h1 h2 G o o' => (Heap.put_ne _ _ h2).trans (Heap.put_ne _ _ h1)
       have nsk : s.k ≠ A'.kG ∧ s.k ≠ A'.kb := ⟨Ne.symm (ne9 hS.bk.tG (by simp)), Ne.symm (ne9 hS.bk.tb (by simp))⟩
       have ngk : gk ≠ A'.kG ∧ gk ≠ A'.kb := ⟨fun e => by rw [e, hS.bk.tG] at hgt; simp at hgt, fun e => by rw [e, hS.bk.tb] at hgt; simp at hgt⟩
       refine ⟨⟨i + 1, tgPut tg' gk (.e i), { A' with vG := A'.vG + 1 }, bs', es'.set i { s with gk := gk, gv := gv }, by omega, by omega, by rw [w1 (by omega)], ?_⟩, by rw [w1 (by omega)]; simp; omega⟩
       refine ⟨?_, ?_, rfl, by have := hS.le; omega, hS.lb, by simp [hS.le'], fun j h1 h2 => ?_, fun j hj => ?_⟩
       · have := hS.bk.growE (H' := (H1.put A'.kG (some (.arr (A'.vG + 1) 1 (List.take i (List.map ES.gav (List.take i es')) ++ [.osl gk gv 0 (3 * s.l + 20)])))).put A'.kb (some (.arr 0 5 [.agg ([.osl A'.kE A'.vE 0 es'.length, .osl A'.kG (A'.vG + 1) 0 (i + 1), .osl A'.kB A'.vB 0 bs'.length, .osl A'.kH A'.vH 0 bs.length, .nilsl])]))) (n' := n1) (p := i) (by omega) (by omega) (gk := gk) (gv := gv) (L := L) (by rw [hs9]; exact hor) hgk (by rw [hs9]; exact hL) (by rw [hs9, hH9 _ nsk.1 nsk.2]; exact hk1) (by rw [hs9, hH9 _ ngk.1 ngk.2]; exact hg1) (vG := A'.vG + 1) (by rw [hs9, Heap.put_ne _ _ (by simpa using qG2), Heap.put_same, List.take_of_length_le (by rw [hgl]; omega)]) (fun k h1 h2 h3 h4 => by rw [hs9] at h2; rw [hH9 _ h3 h4]; exact hrest k (hS.bk.lt k h1) h2)
         rw [hs9] at this
         exact this
       · simp [bookL, Heap.put]
       · obtain ⟨g1, g2⟩ := hS.free j h1 h2
         refine ⟨?_, ?_⟩
         · rw [hH9 _ (fun e => by rw [e, hS.bk.tG] at g2; simp at g2) (fun e => by rw [e, hS.bk.tb] at g2; simp at g2), hrest j (by have := hS.le; omega) (ne9 g2 (by simp))]; exact g1
         · unfold tgPut; rw [if_neg (fun e => ?_)]; exact g2
           rcases hor with e2 | e2
           · exact ne9 g2 (by simp) (e.trans e2)
           · have := hS.le; omega
       · rw [tgPut_keep hgt (by rw [hS.tag j hj]; exact hj)]; exact hS.tag j hj
     ·skip
      have hge : i = es.length := by simp at hb; omega
      subst hge
      refine awp_exit ?_
      try simp only [go_sem, ↓reduceIte, Nat.reduceEqDiff, Nat.reduceLT, Nat.reduceSub, Nat.reduceAdd, Nat.reduceMul]
      exact ⟨tg', A', bs', es', by rw [hkb]; exact hS⟩

theorem nth_rep {a : AV} {n j : Nat} (h : j < n) : nth (List.replicate n a) j = a := by simp [nth, List.getD, h]
set_option maxRecDepth 100000 in
set_option maxHeartbeats 1600000 in
theorem c_law_stands (was : AV) (tg : Nat → Tg) (A : BkA) (bs : List BS) (es : List BS) (H : Heap) (n : Nat) (hb0 : Bk H n tg A bs bs.length bs.length es es.length es.length) (hobj : H A.kb = (some (.arr 0 5 [.agg (bookL A bs bs.length es es.length)]))) :
    Ret Try.prog 27 [.loc A.kb 0 0 0 []] H n (.bool true) H n := by
  simp only [bookL] at hobj
  have hnb := hb0.nb
  have hne := hb0.ne
  have hB := hb0.lB
  have hH := hb0.lH
  have hE := hb0.lE
  have hG := hb0.lG
  rw [List.take_length] at hH hG
  refine acalls_of_awp Try.func27 rfl Try.ntmps27 (congrArg Array.toList Try.results27) (by simp) ?_
  simp only [go_sem]
  refine awp_rq zs [0] ?_
  refine awp_seq_k fun K1 hK1 => ?_
  refine awp_rq zs [0, 3] ?_
  refine awp_block ?_
  -- loop 0: head [0, 3]
  refine awp_loop (fun T' H' n' => ∃ (i : Nat), i ≤ bs.length ∧ T' = tl [(0, .loc A.kb 0 0 0 []), (3, .int .i64 i)] ∧ H' = H ∧ n' = n) (fun T' _ _ => bs.length - iv (T' 3)) ?_ ?_
  ·skip
   exact ⟨0, Nat.zero_le _, rfl, rfl, rfl⟩
  intro T1 H1 n1
  rintro ⟨i, hi, rfl, rfl, rfl⟩
  refine awp_seq_k fun K2 hK2 => ?_
  refine awp_reg zs [0, 3, 13] fun K hK => ?_
  try simp only [go_sem, ↓reduceIte, Nat.reduceEqDiff, Nat.reduceLT, Nat.reduceSub, Nat.reduceAdd, Nat.reduceMul, hobj]
  repeat refine peel ?_
  refine hK _ _ _ ?_; clear hK K
  refine awp_cnd (fun hb => ?_) (fun hb => ?_)
  ·skip
   have hlt : i < bs.length := by simpa using hb
   have hnth : nth (bs.map BS.av) i = BS.av (bs.getD i default) := nth_map BS.av bs i hlt
   have hntg : nth (bs.map BS.gav) i = BS.gav (bs.getD i default) := nth_map BS.gav bs i hlt
   obtain ⟨_, _, _, hX⟩ := hb0.okb i hlt
   obtain ⟨⟨L, hL, hk1⟩, _, hg1⟩ := hX (ph2 hlt)
   have hmw := markW i (by omega)
   have hlb := hb0.lb _ (getD_mem hlt)
   generalize hs9 : bs.getD i default = s at *
   refine awp_skip ?_
   try simp only [go_sem, ↓reduceIte, Nat.reduceEqDiff, Nat.reduceLT, Nat.reduceSub, Nat.reduceAdd, Nat.reduceMul]
   refine hK2 _ _ _ ?_
   first | clear hK2 K2 | skip
   refine awp_seq_k fun K3 hK3 => ?_
   refine awp_block ?_
   refine awp_rq zs [0, 3, 4] ?_
   refine awp_block ?_
   -- loop 1: head [0, 3, 4]
   refine awp_loop (fun T' H' n' => ∃ (j : Nat), j ≤ 2 * s.l + 70 ∧ T' = tl [(0, .loc A.kb 0 0 0 []), (3, .int .i64 i), (4, .int .i64 j)] ∧ H' = H1 ∧ n' = n1) (fun T' _ _ => 2 * s.l + 70 - iv (T' 4)) ?_ ?_
   ·skip
    exact ⟨0, Nat.zero_le _, rfl, rfl, rfl⟩
   intro T1 H1 n1
   rintro ⟨j, hj, rfl, rfl, rfl⟩
   refine awp_seq_k fun K4 hK4 => ?_
   refine awp_reg zs [0, 3, 4, 25] fun K hK => ?_
   try simp only [go_sem, ↓reduceIte, Nat.reduceEqDiff, Nat.reduceLT, Nat.reduceSub, Nat.reduceAdd, Nat.reduceMul, hobj, hH, hntg, Int.toNat_natCast, BS.gav]
   repeat refine peel ?_
   refine hK _ _ _ ?_; clear hK K
   refine awp_cnd (fun hb => ?_) (fun hb => ?_)
   ·skip
    have hlj : j < 2 * s.l + 70 := by have := of_decide_eq_true hb; omega
    have hn1 := fun a => nth_rep (a := a) hlj
    refine awp_skip ?_
    try simp only [go_sem, ↓reduceIte, Nat.reduceEqDiff, Nat.reduceLT, Nat.reduceSub, Nat.reduceAdd, Nat.reduceMul]
    refine hK4 _ _ _ ?_
    first | clear hK4 K4 | skip
    refine awp_seq_k fun K5 hK5 => ?_
    refine awp_block ?_
    rcases (by omega : j < s.l ∨ (s.l ≤ j ∧ j < L) ∨ (s.l ≤ j ∧ L ≤ j)) with hjl | ⟨hjl, hjL⟩ | ⟨hjl, hjL⟩
    ·skip
     have hd9 : decide ((j : Int) < (s.l : Int)) = true := by simpa using hjl
     have hn2 := fun a => nth_rep (a := a) (Nat.lt_of_lt_of_le hjl hL)
     have hjL : j < L := by omega
     refine awp_reg zs [0, 3, 4, 71] fun K hK => ?_
     try simp only [go_sem, ↓reduceIte, Nat.reduceEqDiff, Nat.reduceLT, Nat.reduceSub, Nat.reduceAdd, Nat.reduceMul, hobj, hH, hB, hntg, hnth, Int.toNat_natCast, BS.gav, BS.av, hg1, hk1, hmw, hn1, hn2, hd9, mkB, bne_self_eq_false, List.length_replicate]
     repeat refine peel ?_
     refine hK _ _ _ ?_; clear hK K
     refine awp_cnd (fun hb => ?_) (fun hb => ?_)
     ·skip
      exact absurd hb (by decide)
      --dead
     ·skip
      refine awp_skip ?_
      try simp only [go_sem, ↓reduceIte, Nat.reduceEqDiff, Nat.reduceLT, Nat.reduceSub, Nat.reduceAdd, Nat.reduceMul]
      refine hK5 _ _ _ ?_
      first | clear hK5 K5 | skip
      refine awp_reg1 zs [0, 3, 4] fun K hK => ?_
      try simp only [go_sem, ↓reduceIte, Nat.reduceEqDiff, Nat.reduceLT, Nat.reduceSub, Nat.reduceAdd, Nat.reduceMul]
      repeat refine peel ?_
      refine hK _ _ _ ?_; clear hK K
      try simp only [go_sem, ↓reduceIte, Nat.reduceEqDiff, Nat.reduceLT, Nat.reduceSub, Nat.reduceAdd, Nat.reduceMul]
      exact ⟨⟨j + 1, by omega, by rw [w1 (by omega)]⟩, by rw [w1 (by omega)]; simp; omega⟩
    ·skip
     have hd9 : decide ((j : Int) < (s.l : Int)) = false := by simp; omega
     have hn2 := fun a => nth_rep (a := a) hjL
     refine awp_reg zs [0, 3, 4, 71] fun K hK => ?_
     try simp only [go_sem, ↓reduceIte, Nat.reduceEqDiff, Nat.reduceLT, Nat.reduceSub, Nat.reduceAdd, Nat.reduceMul, hobj, hH, hB, hntg, hnth, Int.toNat_natCast, BS.gav, BS.av, hg1, hk1, hmw, hn1, hn2, hd9, mkB, bne_self_eq_false, List.length_replicate]
     repeat refine peel ?_
     refine hK _ _ _ ?_; clear hK K
     refine awp_cnd (fun hb => ?_) (fun hb => ?_)
     ·skip
      exact absurd hb (by decide)
      --dead
     ·skip
      refine awp_skip ?_
      try simp only [go_sem, ↓reduceIte, Nat.reduceEqDiff, Nat.reduceLT, Nat.reduceSub, Nat.reduceAdd, Nat.reduceMul]
      refine hK5 _ _ _ ?_
      first | clear hK5 K5 | skip
      refine awp_reg1 zs [0, 3, 4] fun K hK => ?_
      try simp only [go_sem, ↓reduceIte, Nat.reduceEqDiff, Nat.reduceLT, Nat.reduceSub, Nat.reduceAdd, Nat.reduceMul]
      repeat refine peel ?_
      refine hK _ _ _ ?_; clear hK K
      try simp only [go_sem, ↓reduceIte, Nat.reduceEqDiff, Nat.reduceLT, Nat.reduceSub, Nat.reduceAdd, Nat.reduceMul]
      exact ⟨⟨j + 1, by omega, by rw [w1 (by omega)]⟩, by rw [w1 (by omega)]; simp; omega⟩
    ·skip
     have hd9 : decide ((j : Int) < (s.l : Int)) = false := by simp; omega
     have hn2 : ∀ a : AV, nth (List.replicate L a) j = .junk := fun a => by simp [nth, List.getD, hjL]
     refine awp_reg zs [0, 3, 4, 71] fun K hK => ?_
     try simp only [go_sem, ↓reduceIte, Nat.reduceEqDiff, Nat.reduceLT, Nat.reduceSub, Nat.reduceAdd, Nat.reduceMul, hobj, hH, hB, hntg, hnth, Int.toNat_natCast, BS.gav, BS.av, hg1, hk1, hmw, hn1, hn2, hd9, mkB, bne_self_eq_false, List.length_replicate]
     repeat refine peel ?_
     refine hK _ _ _ ?_; clear hK K
     refine awp_cnd (fun hb => ?_) (fun hb => ?_)
     ·skip
      exact absurd hb (by decide)
      --dead
     ·skip
      refine awp_skip ?_
      try simp only [go_sem, ↓reduceIte, Nat.reduceEqDiff, Nat.reduceLT, Nat.reduceSub, Nat.reduceAdd, Nat.reduceMul]
      refine hK5 _ _ _ ?_
      first | clear hK5 K5 | skip
      refine awp_reg1 zs [0, 3, 4] fun K hK => ?_
      try simp only [go_sem, ↓reduceIte, Nat.reduceEqDiff, Nat.reduceLT, Nat.reduceSub, Nat.reduceAdd, Nat.reduceMul]
      repeat refine peel ?_
      refine hK _ _ _ ?_; clear hK K
      try simp only [go_sem, ↓reduceIte, Nat.reduceEqDiff, Nat.reduceLT, Nat.reduceSub, Nat.reduceAdd, Nat.reduceMul]
      exact ⟨⟨j + 1, by omega, by rw [w1 (by omega)]⟩, by rw [w1 (by omega)]; simp; omega⟩
   ·skip
    have hje : j = 2 * s.l + 70 := by have := of_decide_eq_false hb; omega
    refine awp_exit ?_
    try simp only [go_sem, ↓reduceIte, Nat.reduceEqDiff, Nat.reduceLT, Nat.reduceSub, Nat.reduceAdd, Nat.reduceMul]
    refine hK3 _ _ _ ?_
    first | clear hK3 K3 | skip
    refine awp_reg1 zs [0, 3] fun K hK => ?_
    try simp only [go_sem, ↓reduceIte, Nat.reduceEqDiff, Nat.reduceLT, Nat.reduceSub, Nat.reduceAdd, Nat.reduceMul]
    repeat refine peel ?_
    refine hK _ _ _ ?_; clear hK K
    try simp only [go_sem, ↓reduceIte, Nat.reduceEqDiff, Nat.reduceLT, Nat.reduceSub, Nat.reduceAdd, Nat.reduceMul]
    exact ⟨⟨i + 1, by omega, by rw [w1 (by omega)]⟩, by rw [w1 (by omega)]; simp; omega⟩
  ·skip
   have hge : i = bs.length := by simp at hb; omega
   refine awp_exit ?_
   try simp only [go_sem, ↓reduceIte, Nat.reduceEqDiff, Nat.reduceLT, Nat.reduceSub, Nat.reduceAdd, Nat.reduceMul]
   refine hK1 _ _ _ ?_
   first | clear hK1 K1 | skip
   refine awp_seq_k fun K6 hK6 => ?_
   refine awp_rq zs [0, 5] ?_
   refine awp_block ?_
   -- loop 2: head [0, 5]
   refine awp_loop (fun T' H' n' => ∃ (i : Nat), i ≤ es.length ∧ T' = tl [(0, .loc A.kb 0 0 0 []), (5, .int .i64 i)] ∧ H' = H1 ∧ n' = n1) (fun T' _ _ => es.length - iv (T' 5)) ?_ ?_
   ·skip
    exact ⟨0, Nat.zero_le _, rfl, rfl, rfl⟩
   intro T1 H1 n1
   rintro ⟨i, hi, rfl, rfl, rfl⟩
   refine awp_seq_k fun K7 hK7 => ?_
   refine awp_reg zs [0, 5, 78] fun K hK => ?_
   try simp only [go_sem, ↓reduceIte, Nat.reduceEqDiff, Nat.reduceLT, Nat.reduceSub, Nat.reduceAdd, Nat.reduceMul, hobj]
   repeat refine peel ?_
   refine hK _ _ _ ?_; clear hK K
   refine awp_cnd (fun hb => ?_) (fun hb => ?_)
   ·skip
    have hlt : i < es.length := by simpa using hb
    have hnth : nth (es.map BS.av) i = BS.av (es.getD i default) := nth_map BS.av es i hlt
    have hntg : nth (es.map ES.gav) i = ES.gav (es.getD i default) := nth_map ES.gav es i hlt
    obtain ⟨_, _, _, hX⟩ := hb0.oke i hlt
    obtain ⟨⟨L, hL, hk1⟩, _, hg1⟩ := hX (ph2 hlt)
    have hmw : IntKind.i64.wrap (-10 - (i : Int)) = -10 - (i : Int) := w64 (by omega) (by omega)
    have hlb := hb0.le _ (getD_mem hlt)
    generalize hs9 : es.getD i default = s at *
    refine awp_skip ?_
    try simp only [go_sem, ↓reduceIte, Nat.reduceEqDiff, Nat.reduceLT, Nat.reduceSub, Nat.reduceAdd, Nat.reduceMul]
    refine hK7 _ _ _ ?_
    first | clear hK7 K7 | skip
    refine awp_seq_k fun K8 hK8 => ?_
    refine awp_block ?_
    refine awp_rq zs [0, 5, 6] ?_
    refine awp_block ?_
    -- loop 3: head [0, 5, 6]
    refine awp_loop (fun T' H' n' => ∃ (j : Nat), j ≤ 3 * s.l + 20 ∧ T' = tl [(0, .loc A.kb 0 0 0 []), (5, .int .i64 i), (6, .int .i64 j)] ∧ H' = H1 ∧ n' = n1) (fun T' _ _ => 3 * s.l + 20 - iv (T' 6)) ?_ ?_
    ·skip
     exact ⟨0, Nat.zero_le _, rfl, rfl, rfl⟩
    intro T1 H1 n1
    rintro ⟨j, hj, rfl, rfl, rfl⟩
    refine awp_seq_k fun K9 hK9 => ?_
    refine awp_reg zs [0, 5, 6, 90] fun K hK => ?_
    try simp only [go_sem, ↓reduceIte, Nat.reduceEqDiff, Nat.reduceLT, Nat.reduceSub, Nat.reduceAdd, Nat.reduceMul, hobj, hG, hntg, Int.toNat_natCast, ES.gav]
    repeat refine peel ?_
    refine hK _ _ _ ?_; clear hK K
    refine awp_cnd (fun hb => ?_) (fun hb => ?_)
    ·skip
     have hlj : j < 3 * s.l + 20 := by have := of_decide_eq_true hb; omega
     have hn1 := fun a => nth_rep (a := a) hlj
     refine awp_skip ?_
     try simp only [go_sem, ↓reduceIte, Nat.reduceEqDiff, Nat.reduceLT, Nat.reduceSub, Nat.reduceAdd, Nat.reduceMul]
     refine hK9 _ _ _ ?_
     first | clear hK9 K9 | skip
     refine awp_seq_k fun K10 hK10 => ?_
     refine awp_block ?_
     rcases (by omega : j < s.l ∨ (s.l ≤ j ∧ j < L) ∨ (s.l ≤ j ∧ L ≤ j)) with hjl | ⟨hjl, hjL⟩ | ⟨hjl, hjL⟩
     ·skip
      have hd9 : decide ((j : Int) < (s.l : Int)) = true := by simpa using hjl
      have hn2 := fun a => nth_rep (a := a) (Nat.lt_of_lt_of_le hjl hL)
      have hjL : j < L := by omega
      refine awp_reg zs [0, 5, 6, 134] fun K hK => ?_
      try simp only [go_sem, ↓reduceIte, Nat.reduceEqDiff, Nat.reduceLT, Nat.reduceSub, Nat.reduceAdd, Nat.reduceMul, hobj, hG, hE, hntg, hnth, Int.toNat_natCast, ES.gav, BS.av, hg1, hk1, hmw, hn1, hn2, hd9, mkE, bne_self_eq_false, List.length_replicate]
      repeat refine peel ?_
      refine hK _ _ _ ?_; clear hK K
      refine awp_cnd (fun hb => ?_) (fun hb => ?_)
      ·skip
       exact absurd hb (by decide)
       --dead
      ·skip
       refine awp_skip ?_
       try simp only [go_sem, ↓reduceIte, Nat.reduceEqDiff, Nat.reduceLT, Nat.reduceSub, Nat.reduceAdd, Nat.reduceMul]
       refine hK10 _ _ _ ?_
       first | clear hK10 K10 | skip
       refine awp_reg1 zs [0, 5, 6] fun K hK => ?_
       try simp only [go_sem, ↓reduceIte, Nat.reduceEqDiff, Nat.reduceLT, Nat.reduceSub, Nat.reduceAdd, Nat.reduceMul]
       repeat refine peel ?_
       refine hK _ _ _ ?_; clear hK K
       try simp only [go_sem, ↓reduceIte, Nat.reduceEqDiff, Nat.reduceLT, Nat.reduceSub, Nat.reduceAdd, Nat.reduceMul]
       exact ⟨⟨j + 1, by omega, by rw [w1 (by omega)]⟩, by rw [w1 (by omega)]; simp; omega⟩
     ·skip
      have hd9 : decide ((j : Int) < (s.l : Int)) = false := by simp; omega
      have hn2 := fun a => nth_rep (a := a) hjL
      refine awp_reg zs [0, 5, 6, 134] fun K hK => ?_
      try simp only [go_sem, ↓reduceIte, Nat.reduceEqDiff, Nat.reduceLT, Nat.reduceSub, Nat.reduceAdd, Nat.reduceMul, hobj, hG, hE, hntg, hnth, Int.toNat_natCast, ES.gav, BS.av, hg1, hk1, hmw, hn1, hn2, hd9, mkE, bne_self_eq_false, List.length_replicate]
      repeat refine peel ?_
      refine hK _ _ _ ?_; clear hK K
      refine awp_cnd (fun hb => ?_) (fun hb => ?_)
      ·skip
       exact absurd hb (by decide)
       --dead
      ·skip
       refine awp_skip ?_
       try simp only [go_sem, ↓reduceIte, Nat.reduceEqDiff, Nat.reduceLT, Nat.reduceSub, Nat.reduceAdd, Nat.reduceMul]
       refine hK10 _ _ _ ?_
       first | clear hK10 K10 | skip
       refine awp_reg1 zs [0, 5, 6] fun K hK => ?_
       try simp only [go_sem, ↓reduceIte, Nat.reduceEqDiff, Nat.reduceLT, Nat.reduceSub, Nat.reduceAdd, Nat.reduceMul]
       repeat refine peel ?_
       refine hK _ _ _ ?_; clear hK K
       try simp only [go_sem, ↓reduceIte, Nat.reduceEqDiff, Nat.reduceLT, Nat.reduceSub, Nat.reduceAdd, Nat.reduceMul]
       exact ⟨⟨j + 1, by omega, by rw [w1 (by omega)]⟩, by rw [w1 (by omega)]; simp; omega⟩
     ·skip
      have hd9 : decide ((j : Int) < (s.l : Int)) = false := by simp; omega
      have hn2 : ∀ a : AV, nth (List.replicate L a) j = .junk := fun a => by simp [nth, List.getD, hjL]
      refine awp_reg zs [0, 5, 6, 134] fun K hK => ?_
      try simp only [go_sem, ↓reduceIte, Nat.reduceEqDiff, Nat.reduceLT, Nat.reduceSub, Nat.reduceAdd, Nat.reduceMul, hobj, hG, hE, hntg, hnth, Int.toNat_natCast, ES.gav, BS.av, hg1, hk1, hmw, hn1, hn2, hd9, mkE, bne_self_eq_false, List.length_replicate]
      repeat refine peel ?_
      refine hK _ _ _ ?_; clear hK K
      refine awp_cnd (fun hb => ?_) (fun hb => ?_)
      ·skip
       exact absurd hb (by decide)
       --dead
      ·skip
       refine awp_skip ?_
       try simp only [go_sem, ↓reduceIte, Nat.reduceEqDiff, Nat.reduceLT, Nat.reduceSub, Nat.reduceAdd, Nat.reduceMul]
       refine hK10 _ _ _ ?_
       first | clear hK10 K10 | skip
       refine awp_reg1 zs [0, 5, 6] fun K hK => ?_
       try simp only [go_sem, ↓reduceIte, Nat.reduceEqDiff, Nat.reduceLT, Nat.reduceSub, Nat.reduceAdd, Nat.reduceMul]
       repeat refine peel ?_
       refine hK _ _ _ ?_; clear hK K
       try simp only [go_sem, ↓reduceIte, Nat.reduceEqDiff, Nat.reduceLT, Nat.reduceSub, Nat.reduceAdd, Nat.reduceMul]
       exact ⟨⟨j + 1, by omega, by rw [w1 (by omega)]⟩, by rw [w1 (by omega)]; simp; omega⟩
    ·skip
     have hje : j = 3 * s.l + 20 := by have := of_decide_eq_false hb; omega
     refine awp_exit ?_
     try simp only [go_sem, ↓reduceIte, Nat.reduceEqDiff, Nat.reduceLT, Nat.reduceSub, Nat.reduceAdd, Nat.reduceMul]
     refine hK8 _ _ _ ?_
     first | clear hK8 K8 | skip
     refine awp_reg1 zs [0, 5] fun K hK => ?_
     try simp only [go_sem, ↓reduceIte, Nat.reduceEqDiff, Nat.reduceLT, Nat.reduceSub, Nat.reduceAdd, Nat.reduceMul]
     repeat refine peel ?_
     refine hK _ _ _ ?_; clear hK K
     try simp only [go_sem, ↓reduceIte, Nat.reduceEqDiff, Nat.reduceLT, Nat.reduceSub, Nat.reduceAdd, Nat.reduceMul]
     exact ⟨⟨i + 1, by omega, by rw [w1 (by omega)]⟩, by rw [w1 (by omega)]; simp; omega⟩
   ·skip
    have hge : i = es.length := by simp at hb; omega
    refine awp_exit ?_
    try simp only [go_sem, ↓reduceIte, Nat.reduceEqDiff, Nat.reduceLT, Nat.reduceSub, Nat.reduceAdd, Nat.reduceMul]
    refine hK6 _ _ _ ?_
    first | clear hK6 K6 | skip
    refine awp_rq zs [2] ?_
    refine awp_ret ?_
    try simp only [go_sem, ↓reduceIte, Nat.reduceEqDiff, Nat.reduceLT, Nat.reduceSub, Nat.reduceAdd, Nat.reduceMul]
    skip
end Go.Proofs.Ytijhkfhflpmajaa

