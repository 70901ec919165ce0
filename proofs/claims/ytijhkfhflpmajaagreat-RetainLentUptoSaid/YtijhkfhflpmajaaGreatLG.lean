/- Own layer: the walks through the small functions of the laws. Of the program; no condition. -/
import Derived.Test.YtijhkfhflpmajaaGreatLF
import Derived.Test.YtijhkfhflpmajaaGreatLM
set_option linter.unusedSimpArgs false
set_option linter.unusedVariables false
namespace Go.Proofs.YtijhkfhflpmajaaGreat
open Go Go.Sx Go.Rt Go.Proofs

theorem c_law_num (e : Int) (H : Heap) (n : Nat) : Ret Tryz.prog 16 [.int .i64 e] H n (.int .i64 e) H n := by
  refine acalls_of_awp Tryz.func16 rfl Tryz.ntmps16 (congrArg Array.toList Tryz.results16) (by simp) ?_
  simp only [go_sem]
  refine awp_rq zs [0] ?_
  refine awp_rq zs [2] ?_
  refine awp_ret ?_
  try simp only [go_sem, ↓reduceIte, Nat.reduceEqDiff, Nat.reduceLT, Nat.reduceSub, Nat.reduceAdd, Nat.reduceMul]

theorem c_ref3_Alike (a b : List UInt8) (H : Heap) (n : Nat) : Ret Tryz.prog 60 [bys a, bys b] H n (.bool (a == b)) H n := by
  refine acalls_of_awp Tryz.func60 rfl Tryz.ntmps60 (congrArg Array.toList Tryz.results60) (by simp) ?_
  simp only [go_sem]
  refine awp_rq zs [0, 1] ?_
  refine awp_reg zs [4] fun K hK => ?_
  try simp only [go_sem, ↓reduceIte, Nat.reduceEqDiff, Nat.reduceLT, Nat.reduceSub, Nat.reduceAdd, Nat.reduceMul, map_byteOf]
  repeat (first | (refine And.intro ?_ ?_; · first | exact bys_isByte _) | refine peel ?_)
  refine hK _ _ _ ?_; clear hK K
  refine awp_ret ?_
  try simp only [go_sem, ↓reduceIte, Nat.reduceEqDiff, Nat.reduceLT, Nat.reduceSub, Nat.reduceAdd, Nat.reduceMul]

theorem c_ref3_Same (a b : Ent) (H : Heap) (n : Nat) : Ret Tryz.prog 32 [entAV a, entAV b] H n (.bool (sameE a b)) H n := by
  refine Ret.fin ?_
  refine acalls_of_awp Tryz.func32 rfl Tryz.ntmps32 (congrArg Array.toList Tryz.results32) (by simp) ?_
  simp only [go_sem]
  refine awp_rq zs [2, 3] ?_
  refine awp_seq_k fun K1 hK1 => ?_
  refine awp_rq zs [2, 3, 30] ?_
  refine awp_cnd (fun hb => ?_) (fun hb => ?_)
  ·skip
   refine awp_rq zs [4] ?_
   refine awp_ret ?_
   try simp only [go_sem, ↓reduceIte, Nat.reduceEqDiff, Nat.reduceLT, Nat.reduceSub, Nat.reduceAdd, Nat.reduceMul]
   refine ⟨_, rfl, ?_, Frz.eq ?_ trivial⟩
   · intro k hk; have h0 : k ≠ n := by omega
     have h1 : ∀ j, k ≠ n + j := fun j => by omega
     simp [Heap.put, h0, h1]
   rw [sameE_eq]; simp only [bne] at hb; congr 1
   generalize (a.fam == b.fam) = p1 at *
   generalize (a.ts == b.ts) = p2 at *
   generalize (a.seq == b.seq) = p3 at *
   generalize (a.kind == b.kind) = p4 at *
   generalize (a.row == b.row) = p5 at *
   generalize (a.qual == b.qual) = p6 at *
   generalize (a.value == b.value) = p7 at *
   revert hb; revert p1 p2 p3 p4 p5 p6 p7; decide
  ·skip
   refine awp_skip ?_
   try simp only [go_sem, ↓reduceIte, Nat.reduceEqDiff, Nat.reduceLT, Nat.reduceSub, Nat.reduceAdd, Nat.reduceMul]
   refine hK1 _ _ _ ?_
   first | clear hK1 K1 | skip
   refine awp_reg zs [4] fun K hK => ?_
   try simp only [go_sem, ↓reduceIte, Nat.reduceEqDiff, Nat.reduceLT, Nat.reduceSub, Nat.reduceAdd, Nat.reduceMul]
   repeat refine peel ?_
   refine callK_use Tryz.func60 rfl rfl rfl ((c_ref3_Alike a.row b.row _ _)) ?_
   try simp only [go_sem, ↓reduceIte, Nat.reduceEqDiff, Nat.reduceLT, Nat.reduceSub, Nat.reduceAdd, Nat.reduceMul]
   repeat refine peel ?_
   refine callG_use Tryz.func60 rfl rfl rfl (fun _ => (c_ref3_Alike a.qual b.qual _ _)) ?_
   try simp only [go_sem, ↓reduceIte, Nat.reduceEqDiff, Nat.reduceLT, Nat.reduceSub, Nat.reduceAdd, Nat.reduceMul]
   repeat refine peel ?_
   refine callG_use Tryz.func60 rfl rfl rfl (fun _ => (c_ref3_Alike a.value b.value _ _)) ?_
   try simp only [go_sem, ↓reduceIte, Nat.reduceEqDiff, Nat.reduceLT, Nat.reduceSub, Nat.reduceAdd, Nat.reduceMul]
   repeat refine peel ?_
   refine hK _ _ _ ?_; clear hK K
   refine awp_ret ?_
   try simp only [go_sem, ↓reduceIte, Nat.reduceEqDiff, Nat.reduceLT, Nat.reduceSub, Nat.reduceAdd, Nat.reduceMul]
   refine ⟨_, rfl, ?_, Frz.eq ?_ trivial⟩
   · intro k hk; have h0 : k ≠ n := by omega
     have h1 : ∀ j, k ≠ n + j := fun j => by omega
     simp [Heap.put, h0, h1]
   rw [sameE_eq]; simp only [bne] at hb; congr 1
   generalize (a.fam == b.fam) = p1 at *
   generalize (a.ts == b.ts) = p2 at *
   generalize (a.seq == b.seq) = p3 at *
   generalize (a.kind == b.kind) = p4 at *
   generalize (a.row == b.row) = p5 at *
   generalize (a.qual == b.qual) = p6 at *
   generalize (a.value == b.value) = p7 at *
   revert hb; revert p1 p2 p3 p4 p5 p6 p7; decide

def sameAllE (a b : List Ent) : Bool := decide (a = b)
theorem c_ref3_SameAll (a b : List Ent) (hl : a.length < 4611686018427387904) (H : Heap) (n : Nat) : Ret Tryz.prog 17 [entsAV a, entsAV b] H n (.bool (decide (a = b))) H n := by
  refine acalls_of_awp Tryz.func17 rfl Tryz.ntmps17 (congrArg Array.toList Tryz.results17) (by simp) ?_
  simp only [go_sem]
  refine awp_rq zs [0, 1] ?_
  refine awp_seq_k fun K1 hK1 => ?_
  refine awp_rq zs [0, 1, 11] ?_
  refine awp_cnd (fun hb => ?_) (fun hb => ?_)
  ·skip
   have hne : a.length ≠ b.length := by simp at hb; exact fun h => hb (by rw [h])
   refine awp_rq zs [4] ?_
   refine awp_ret ?_
   try simp only [go_sem, ↓reduceIte, Nat.reduceEqDiff, Nat.reduceLT, Nat.reduceSub, Nat.reduceAdd, Nat.reduceMul]
   first
   | (have h9 : ¬ a = b := fun h => hne (by rw [h])
      simp [h9])
   | (rw [← hd]; simp [hxy])
   | (rw [← hd, hge, hel]; simp [← hel])
  ·skip
   have hel : a.length = b.length := by simp at hb; exact Int.ofNat_inj.1 hb
   refine awp_skip ?_
   try simp only [go_sem, ↓reduceIte, Nat.reduceEqDiff, Nat.reduceLT, Nat.reduceSub, Nat.reduceAdd, Nat.reduceMul]
   refine hK1 _ _ _ ?_
   first | clear hK1 K1 | skip
   refine awp_seq_k fun K2 hK2 => ?_
   refine awp_rq zs [0, 1, 5] ?_
   refine awp_block ?_
   -- loop 0: head [0, 1, 5]
   refine awp_loop (fun T' H' n' => ∃ i : Nat, i ≤ a.length ∧ T' = tl [(0, .sl 7 (a.map entAV)), (1, .sl 7 (b.map entAV)), (5, .int .i64 i)] ∧ H' = H ∧ n' = n ∧ (decide (a.drop i = b.drop i)) = decide (a = b)) (fun T' _ _ => a.length - iv (T' 5)) ?_ ?_
   ·skip
    exact ⟨0, Nat.zero_le _, rfl, rfl, rfl, rfl⟩
   intro T1 H1 n1
   rintro ⟨i, hi, rfl, rfl, rfl, hd⟩
   refine awp_seq_k fun K3 hK3 => ?_
   refine awp_rq zs [0, 1, 5, 15] ?_
   refine awp_cnd (fun hb => ?_) (fun hb => ?_)
   ·skip
    have hlt : i < a.length := by simpa using hb
    have hlb : i < b.length := by omega
    rw [drop_cons a i hlt, drop_cons b i hlb] at hd
    have hn1 : nth (a.map entAV) i = entAV (a.getD i default) := nth_map entAV a i hlt
    have hn2 : nth (b.map entAV) i = entAV (b.getD i default) := nth_map entAV b i hlb
    generalize a.getD i default = x at *
    generalize b.getD i default = y at *
    refine awp_skip ?_
    try simp only [go_sem, ↓reduceIte, Nat.reduceEqDiff, Nat.reduceLT, Nat.reduceSub, Nat.reduceAdd, Nat.reduceMul]
    refine hK3 _ _ _ ?_
    first | clear hK3 K3 | skip
    refine awp_seq_k fun K4 hK4 => ?_
    refine awp_block ?_
    refine awp_drw rfl zs [0, 1, 5, 6] [.m, .m, .q, .q, .m, .m, .q, .q, .c, .q] (by kernel_rfl) (fun _ _ _ _ _ h => h) fun K hK => ?_
    try simp only [go_sem, ↓reduceIte, Nat.reduceEqDiff, Nat.reduceLT, Nat.reduceSub, Nat.reduceAdd, Nat.reduceMul, Int.toNat_natCast, hn1, hn2]
    repeat refine peel ?_
    refine callQG_use Tryz.func32 rfl rfl rfl (fun _ n => (c_ref3_Same x y _ _)) ?_
    try simp only [go_sem, ↓reduceIte, Nat.reduceEqDiff, Nat.reduceLT, Nat.reduceSub, Nat.reduceAdd, Nat.reduceMul, Int.toNat_natCast, hn1, hn2]
    repeat refine peel ?_
    refine hK _ _ _ ?_; clear hK K
    refine awp_rq zs [0, 1, 5, 28] ?_
    refine awp_cnd (fun hb => ?_) (fun hb => ?_)
    ·skip
     have hxy : x ≠ y := by simpa [sameE] using hb
     refine awp_rq zs [4] ?_
     refine awp_ret ?_
     try simp only [go_sem, ↓reduceIte, Nat.reduceEqDiff, Nat.reduceLT, Nat.reduceSub, Nat.reduceAdd, Nat.reduceMul]
     first
     | (have h9 : ¬ a = b := fun h => hne (by rw [h])
        simp [h9])
     | (rw [← hd]; simp [hxy])
     | (rw [← hd, hge, hel]; simp [← hel])
    ·skip
     have hxy : x = y := by simpa [sameE] using hb
     refine awp_skip ?_
     try simp only [go_sem, ↓reduceIte, Nat.reduceEqDiff, Nat.reduceLT, Nat.reduceSub, Nat.reduceAdd, Nat.reduceMul]
     refine hK4 _ _ _ ?_
     first | clear hK4 K4 | skip
     refine awp_reg1 zs [0, 1, 5] fun K hK => ?_
     try simp only [go_sem, ↓reduceIte, Nat.reduceEqDiff, Nat.reduceLT, Nat.reduceSub, Nat.reduceAdd, Nat.reduceMul]
     repeat refine peel ?_
     refine hK _ _ _ ?_; clear hK K
     try simp only [go_sem, ↓reduceIte, Nat.reduceEqDiff, Nat.reduceLT, Nat.reduceSub, Nat.reduceAdd, Nat.reduceMul]
     refine ⟨⟨i + 1, by omega, by rw [w1 (by omega)], by rw [← hd, hxy]; simp⟩, by rw [w1 (by omega)]; simp; omega⟩
   ·skip
    have hge : i = a.length := by simp at hb; omega
    refine awp_exit ?_
    try simp only [go_sem, ↓reduceIte, Nat.reduceEqDiff, Nat.reduceLT, Nat.reduceSub, Nat.reduceAdd, Nat.reduceMul]
    refine hK2 _ _ _ ?_
    first | clear hK2 K2 | skip
    refine awp_rq zs [4] ?_
    refine awp_ret ?_
    try simp only [go_sem, ↓reduceIte, Nat.reduceEqDiff, Nat.reduceLT, Nat.reduceSub, Nat.reduceAdd, Nat.reduceMul]
    first
    | (have h9 : ¬ a = b := fun h => hne (by rw [h])
       simp [h9])
    | (rw [← hd]; simp [hxy])
    | (rw [← hd, hge, hel]; simp [← hel])

theorem c_ref3_Copied (b : List UInt8) (hb : b.length ≤ 140737488355328) (H : Heap) (n : Nat) : Ret Tryz.prog 61 [bys b] H n (bys b) H n := by
  refine acalls_of_awp Tryz.func61 rfl Tryz.ntmps61 (congrArg Array.toList Tryz.results61) (by simp) ?_
  simp only [go_sem]
  refine awp_rq zs [0] ?_
  refine awp_rq zs [0, 3] ?_
  refine awp_reg zs [2] fun K hK => ?_
  try simp only [go_sem, ↓reduceIte, Nat.reduceEqDiff, Nat.reduceLT, Nat.reduceSub, Nat.reduceAdd, Nat.reduceMul]
  repeat (first | (refine And.intro ?_ ?_; · first | (simp; omega) | exact ⟨.inr trivial, by simp; omega, by simp; omega⟩) | refine peel ?_)
  refine hK _ _ _ ?_; clear hK K
  refine awp_ret ?_
  try simp only [go_sem, ↓reduceIte, Nat.reduceEqDiff, Nat.reduceLT, Nat.reduceSub, Nat.reduceAdd, Nat.reduceMul]

theorem c_ref3_Clone (e : Ent) (he : e.fits) (H : Heap) (n : Nat) : Ret Tryz.prog 34 [entAV e] H n (entAV e) H n := by
  obtain ⟨h1, h2, h3⟩ := he
  refine Ret.fin ?_
  refine acalls_of_awp Tryz.func34 rfl Tryz.ntmps34 (congrArg Array.toList Tryz.results34) (by simp) ?_
  simp only [go_sem]
  refine awp_rq zs [1, 2] ?_
  refine awp_reg zs [1, 2] fun K hK => ?_
  try simp only [go_sem, ↓reduceIte, Nat.reduceEqDiff, Nat.reduceLT, Nat.reduceSub, Nat.reduceAdd, Nat.reduceMul]
  repeat refine peel ?_
  refine callK_use Tryz.func61 rfl rfl rfl ((c_ref3_Copied e.row h1 _ _)) ?_
  try simp only [go_sem, ↓reduceIte, Nat.reduceEqDiff, Nat.reduceLT, Nat.reduceSub, Nat.reduceAdd, Nat.reduceMul]
  repeat refine peel ?_
  refine hK _ _ _ ?_; clear hK K
  refine awp_reg zs [1, 2] fun K hK => ?_
  try simp only [go_sem, ↓reduceIte, Nat.reduceEqDiff, Nat.reduceLT, Nat.reduceSub, Nat.reduceAdd, Nat.reduceMul]
  repeat refine peel ?_
  refine callK_use Tryz.func61 rfl rfl rfl ((c_ref3_Copied e.qual h2 _ _)) ?_
  try simp only [go_sem, ↓reduceIte, Nat.reduceEqDiff, Nat.reduceLT, Nat.reduceSub, Nat.reduceAdd, Nat.reduceMul]
  repeat refine peel ?_
  refine hK _ _ _ ?_; clear hK K
  refine awp_reg zs [1, 2] fun K hK => ?_
  try simp only [go_sem, ↓reduceIte, Nat.reduceEqDiff, Nat.reduceLT, Nat.reduceSub, Nat.reduceAdd, Nat.reduceMul]
  repeat refine peel ?_
  refine callK_use Tryz.func61 rfl rfl rfl ((c_ref3_Copied e.value h3 _ _)) ?_
  try simp only [go_sem, ↓reduceIte, Nat.reduceEqDiff, Nat.reduceLT, Nat.reduceSub, Nat.reduceAdd, Nat.reduceMul]
  repeat refine peel ?_
  refine hK _ _ _ ?_; clear hK K
  refine awp_rq zs [2] ?_
  refine awp_ret ?_
  try simp only [go_sem, ↓reduceIte, Nat.reduceEqDiff, Nat.reduceLT, Nat.reduceSub, Nat.reduceAdd, Nat.reduceMul]
  refine ⟨_, rfl, ?_, Frz.eq rfl (kl_ent e n)⟩
  intro k hk; have h0 : k ≠ n := by omega
  have h1 : ∀ j, k ≠ n + j := fun j => by omega
  simp [Heap.put, h0, h1]

/-- has no entry of the one list a Seq of the other -/
def apartE (a b : List Ent) : Bool := a.all fun x => b.all fun y => x.seq != y.seq

end Go.Proofs.YtijhkfhflpmajaaGreat
namespace Go.Proofs.YtijhkfhflpmajaaGreat
open Go Go.Sx Go.Rt Go.Proofs

def oneE (kind ts seq : Int) : Ent := ⟨[114], 0, if kind = 5 then [] else [113], ts, seq, kind, if kind = 1 then [118] else []⟩
theorem c_law_one (kind ts seq : Int) (H : Heap) (n : Nat) : Ret Tryz.prog 30 [.int .i64 kind, .int .i64 ts, .int .i64 seq] H n (entAV (oneE kind ts seq)) H n := by
  refine Ret.fin ?_
  refine acalls_of_awp Tryz.func30 rfl Tryz.ntmps30 (congrArg Array.toList Tryz.results30) (by simp) ?_
  simp only [go_sem]
  refine awp_reg zs [0, 1, 2, 6] fun K hK => ?_
  try simp only [go_sem, ↓reduceIte, Nat.reduceEqDiff, Nat.reduceLT, Nat.reduceSub, Nat.reduceAdd, Nat.reduceMul, Nat.add_assoc]
  repeat refine peel ?_
  refine hK _ _ _ ?_; clear hK K
  refine awp_reg zo [0, 6, 7] fun K hK => ?_
  try simp only [go_sem, ↓reduceIte, Nat.reduceEqDiff, Nat.reduceLT, Nat.reduceSub, Nat.reduceAdd, Nat.reduceMul, Nat.add_assoc]
  repeat refine peel ?_
  refine hK _ _ _ ?_; clear hK K
  refine awp_seq_k fun K1 hK1 => ?_
  refine awp_reg zs [0, 6, 7, 17] fun K hK => ?_
  try simp only [go_sem, ↓reduceIte, Nat.reduceEqDiff, Nat.reduceLT, Nat.reduceSub, Nat.reduceAdd, Nat.reduceMul, Nat.add_assoc]
  repeat refine peel ?_
  refine hK _ _ _ ?_; clear hK K
  refine awp_cnd (fun hb => ?_) (fun hb => ?_)
  ·skip
   have h1 : kind = 1 := by simpa using hb
   refine awp_reg1 zo [0, 6, 7] fun K hK => ?_
   try simp only [go_sem, ↓reduceIte, Nat.reduceEqDiff, Nat.reduceLT, Nat.reduceSub, Nat.reduceAdd, Nat.reduceMul, Nat.add_assoc]
   repeat refine peel ?_
   refine hK _ _ _ ?_; clear hK K
   try simp only [go_sem, ↓reduceIte, Nat.reduceEqDiff, Nat.reduceLT, Nat.reduceSub, Nat.reduceAdd, Nat.reduceMul, Nat.add_assoc]
   refine hK1 _ _ _ ?_
   first | clear hK1 K1 | skip
   refine awp_seq_k fun K2 hK2 => ?_
   refine awp_reg zs [6, 7, 22] fun K hK => ?_
   try simp only [go_sem, ↓reduceIte, Nat.reduceEqDiff, Nat.reduceLT, Nat.reduceSub, Nat.reduceAdd, Nat.reduceMul, Nat.add_assoc]
   repeat refine peel ?_
   refine hK _ _ _ ?_; clear hK K
   refine awp_cnd (fun hb => ?_) (fun hb => ?_)
   ·skip
    have h2 : kind = 5 := by simpa using hb
    refine awp_reg1 zs [6, 7] fun K hK => ?_
    try simp only [go_sem, ↓reduceIte, Nat.reduceEqDiff, Nat.reduceLT, Nat.reduceSub, Nat.reduceAdd, Nat.reduceMul, Nat.add_assoc]
    repeat refine peel ?_
    refine hK _ _ _ ?_; clear hK K
    try simp only [go_sem, ↓reduceIte, Nat.reduceEqDiff, Nat.reduceLT, Nat.reduceSub, Nat.reduceAdd, Nat.reduceMul, Nat.add_assoc]
    refine hK2 _ _ _ ?_
    first | clear hK2 K2 | skip
    refine awp_reg zs [6] fun K hK => ?_
    try simp only [go_sem, ↓reduceIte, Nat.reduceEqDiff, Nat.reduceLT, Nat.reduceSub, Nat.reduceAdd, Nat.reduceMul, Nat.add_assoc]
    repeat refine peel ?_
    refine hK _ _ _ ?_; clear hK K
    refine awp_ret ?_
    try simp only [go_sem, ↓reduceIte, Nat.reduceEqDiff, Nat.reduceLT, Nat.reduceSub, Nat.reduceAdd, Nat.reduceMul, Nat.add_assoc]
    refine ⟨_, rfl, ?_, ?_⟩
    · intro k hk; have h0 : k ≠ n := by omega
      have h1 : ∀ j, k ≠ n + j := fun j => by omega
      simp [Heap.put, h0, h1]
    · simp only [oneE, h1, h2, if_true, if_false, entAV, Int.reduceEq, Nat.reduceEqDiff]
      refine Frz.agg ?_
      repeat' (first | exact FrzL.nil | refine FrzL.cons ?_ ?_ | exact Frz.nilsl | exact Frz.kl (a := .sl 1 [.int .u8 114]) ⟨trivial, trivial⟩ | exact Frz.kl (a := .sl 1 [.int .u8 113]) ⟨trivial, trivial⟩ | exact Frz.kl (a := .sl 1 [.int .u8 118]) ⟨trivial, trivial⟩ | exact Frz.kl trivial | (exfalso; omega))
   ·skip
    have h2 : kind ≠ 5 := by simpa using hb
    refine awp_skip ?_
    try simp only [go_sem, ↓reduceIte, Nat.reduceEqDiff, Nat.reduceLT, Nat.reduceSub, Nat.reduceAdd, Nat.reduceMul, Nat.add_assoc]
    refine hK2 _ _ _ ?_
    first | clear hK2 K2 | skip
    refine awp_reg zs [6] fun K hK => ?_
    try simp only [go_sem, ↓reduceIte, Nat.reduceEqDiff, Nat.reduceLT, Nat.reduceSub, Nat.reduceAdd, Nat.reduceMul, Nat.add_assoc]
    repeat refine peel ?_
    refine hK _ _ _ ?_; clear hK K
    refine awp_ret ?_
    try simp only [go_sem, ↓reduceIte, Nat.reduceEqDiff, Nat.reduceLT, Nat.reduceSub, Nat.reduceAdd, Nat.reduceMul, Nat.add_assoc]
    refine ⟨_, rfl, ?_, ?_⟩
    · intro k hk; have h0 : k ≠ n := by omega
      have h1 : ∀ j, k ≠ n + j := fun j => by omega
      simp [Heap.put, h0, h1]
    · simp only [oneE, h1, h2, if_true, if_false, entAV, Int.reduceEq, Nat.reduceEqDiff]
      refine Frz.agg ?_
      repeat' (first | exact FrzL.nil | refine FrzL.cons ?_ ?_ | exact Frz.nilsl | exact Frz.kl (a := .sl 1 [.int .u8 114]) ⟨trivial, trivial⟩ | exact Frz.kl (a := .sl 1 [.int .u8 113]) ⟨trivial, trivial⟩ | exact Frz.kl (a := .sl 1 [.int .u8 118]) ⟨trivial, trivial⟩ | exact Frz.kl trivial | (exfalso; omega))
  ·skip
   have h1 : kind ≠ 1 := by simpa using hb
   refine awp_skip ?_
   try simp only [go_sem, ↓reduceIte, Nat.reduceEqDiff, Nat.reduceLT, Nat.reduceSub, Nat.reduceAdd, Nat.reduceMul, Nat.add_assoc]
   refine hK1 _ _ _ ?_
   first | clear hK1 K1 | skip
   refine awp_seq_k fun K3 hK3 => ?_
   refine awp_reg zs [6, 7, 22] fun K hK => ?_
   try simp only [go_sem, ↓reduceIte, Nat.reduceEqDiff, Nat.reduceLT, Nat.reduceSub, Nat.reduceAdd, Nat.reduceMul, Nat.add_assoc]
   repeat refine peel ?_
   refine hK _ _ _ ?_; clear hK K
   refine awp_cnd (fun hb => ?_) (fun hb => ?_)
   ·skip
    have h2 : kind = 5 := by simpa using hb
    refine awp_reg1 zs [6, 7] fun K hK => ?_
    try simp only [go_sem, ↓reduceIte, Nat.reduceEqDiff, Nat.reduceLT, Nat.reduceSub, Nat.reduceAdd, Nat.reduceMul, Nat.add_assoc]
    repeat refine peel ?_
    refine hK _ _ _ ?_; clear hK K
    try simp only [go_sem, ↓reduceIte, Nat.reduceEqDiff, Nat.reduceLT, Nat.reduceSub, Nat.reduceAdd, Nat.reduceMul, Nat.add_assoc]
    refine hK3 _ _ _ ?_
    first | clear hK3 K3 | skip
    refine awp_reg zs [6] fun K hK => ?_
    try simp only [go_sem, ↓reduceIte, Nat.reduceEqDiff, Nat.reduceLT, Nat.reduceSub, Nat.reduceAdd, Nat.reduceMul, Nat.add_assoc]
    repeat refine peel ?_
    refine hK _ _ _ ?_; clear hK K
    refine awp_ret ?_
    try simp only [go_sem, ↓reduceIte, Nat.reduceEqDiff, Nat.reduceLT, Nat.reduceSub, Nat.reduceAdd, Nat.reduceMul, Nat.add_assoc]
    refine ⟨_, rfl, ?_, ?_⟩
    · intro k hk; have h0 : k ≠ n := by omega
      have h1 : ∀ j, k ≠ n + j := fun j => by omega
      simp [Heap.put, h0, h1]
    · simp only [oneE, h1, h2, if_true, if_false, entAV, Int.reduceEq, Nat.reduceEqDiff]
      refine Frz.agg ?_
      repeat' (first | exact FrzL.nil | refine FrzL.cons ?_ ?_ | exact Frz.nilsl | exact Frz.kl (a := .sl 1 [.int .u8 114]) ⟨trivial, trivial⟩ | exact Frz.kl (a := .sl 1 [.int .u8 113]) ⟨trivial, trivial⟩ | exact Frz.kl (a := .sl 1 [.int .u8 118]) ⟨trivial, trivial⟩ | exact Frz.kl trivial | (exfalso; omega))
   ·skip
    have h2 : kind ≠ 5 := by simpa using hb
    refine awp_skip ?_
    try simp only [go_sem, ↓reduceIte, Nat.reduceEqDiff, Nat.reduceLT, Nat.reduceSub, Nat.reduceAdd, Nat.reduceMul, Nat.add_assoc]
    refine hK3 _ _ _ ?_
    first | clear hK3 K3 | skip
    refine awp_reg zs [6] fun K hK => ?_
    try simp only [go_sem, ↓reduceIte, Nat.reduceEqDiff, Nat.reduceLT, Nat.reduceSub, Nat.reduceAdd, Nat.reduceMul, Nat.add_assoc]
    repeat refine peel ?_
    refine hK _ _ _ ?_; clear hK K
    refine awp_ret ?_
    try simp only [go_sem, ↓reduceIte, Nat.reduceEqDiff, Nat.reduceLT, Nat.reduceSub, Nat.reduceAdd, Nat.reduceMul, Nat.add_assoc]
    refine ⟨_, rfl, ?_, ?_⟩
    · intro k hk; have h0 : k ≠ n := by omega
      have h1 : ∀ j, k ≠ n + j := fun j => by omega
      simp [Heap.put, h0, h1]
    · simp only [oneE, h1, h2, if_true, if_false, entAV, Int.reduceEq, Nat.reduceEqDiff]
      refine Frz.agg ?_
      repeat' (first | exact FrzL.nil | refine FrzL.cons ?_ ?_ | exact Frz.nilsl | exact Frz.kl (a := .sl 1 [.int .u8 114]) ⟨trivial, trivial⟩ | exact Frz.kl (a := .sl 1 [.int .u8 113]) ⟨trivial, trivial⟩ | exact Frz.kl (a := .sl 1 [.int .u8 118]) ⟨trivial, trivial⟩ | exact Frz.kl trivial | (exfalso; omega))

def familyE (max ttl : Int) : List Fml := [⟨[102], max, ttl⟩]
theorem c_law_family (max ttl : Int) (H : Heap) (n : Nat) : Ret Tryz.prog 31 [.int .i64 max, .int .i64 ttl] H n (schAV (familyE max ttl)) H n := by
  refine Ret.fin ?_
  refine acalls_of_awp Tryz.func31 rfl Tryz.ntmps31 (congrArg Array.toList Tryz.results31) (by simp) ?_
  simp only [go_sem]
  refine awp_rq zs [0, 1, 4] ?_
  refine awp_reg zs [4] fun K hK => ?_
  try simp only [go_sem, ↓reduceIte, Nat.reduceEqDiff, Nat.reduceLT, Nat.reduceSub, Nat.reduceAdd, Nat.reduceMul]
  repeat (first | (refine And.intro ?_ ?_; · first | exact ⟨rfl, by decide, by simp [AV.sz, AV.szs, AV.memOK]⟩) | refine peel ?_)
  refine hK _ _ _ ?_; clear hK K
  refine awp_ret ?_
  try simp only [go_sem, ↓reduceIte, Nat.reduceEqDiff, Nat.reduceLT, Nat.reduceSub, Nat.reduceAdd, Nat.reduceMul]
  refine ⟨_, rfl, ?_, Frz.kl (show AV.kl n (schAV (familyE max ttl)) from kl_sch _ _)⟩
  · intro k hk; have h0 : k ≠ n := by omega
    simp [Heap.put, h0]

def l0 : List Ent := [oneE 1 5 3, oneE 1 9 1, oneE 3 7 4, oneE 1 7 2]
theorem vis0 : visE (familyE 2 10) 12 l0 = ([oneE 1 9 1], 0) := by decide +kernel
theorem squash0 : squashE (familyE 2 10) 12 false 0 l0 = ([oneE 1 9 1, oneE 2 7 4], 0) := by decide +kernel
theorem read0 : readE (familyE 2 10) 12 12 1 l0 = ([oneE 1 9 1], 0) := by decide +kernel
theorem top0 : topE (familyE 2 10) 12 l0 = (9, 0) := by decide +kernel

set_option maxHeartbeats 1600000 in
theorem c_law_started (H : Heap) (n : Nat) : Ret Tryz.prog 11 [] H n (.bool true) H n := by
  refine acalls_of_awp Tryz.func11 rfl Tryz.ntmps11 (congrArg Array.toList Tryz.results11) (by simp) ?_
  simp only [go_sem]
  refine awp_reg zs [] fun K hK => ?_
  try simp only [go_sem, ↓reduceIte, Nat.reduceEqDiff, Nat.reduceLT, Nat.reduceSub, Nat.reduceAdd, Nat.reduceMul, vis0, squash0, read0, top0]
  repeat refine peel ?_
  refine hK _ _ _ ?_; clear hK K
  refine awp_reg zs [1] fun K hK => ?_
  try simp only [go_sem, ↓reduceIte, Nat.reduceEqDiff, Nat.reduceLT, Nat.reduceSub, Nat.reduceAdd, Nat.reduceMul, vis0, squash0, read0, top0]
  repeat (first | (refine And.intro ?_ ?_; · first | exact ⟨rfl, by decide, by simp [AV.sz, AV.szs, AV.memOK]⟩) | refine peel ?_)
  refine callK_use Tryz.func30 rfl rfl rfl ((c_law_one 1 5 3 _ _)) ?_
  try simp only [go_sem, ↓reduceIte, Nat.reduceEqDiff, Nat.reduceLT, Nat.reduceSub, Nat.reduceAdd, Nat.reduceMul, vis0, squash0, read0, top0]
  repeat (first | (refine And.intro ?_ ?_; · first | exact ⟨rfl, by decide, by simp [AV.sz, AV.szs, AV.memOK]⟩) | refine peel ?_)
  refine callK_use Tryz.func30 rfl rfl rfl ((c_law_one 1 9 1 _ _)) ?_
  try simp only [go_sem, ↓reduceIte, Nat.reduceEqDiff, Nat.reduceLT, Nat.reduceSub, Nat.reduceAdd, Nat.reduceMul, vis0, squash0, read0, top0]
  repeat (first | (refine And.intro ?_ ?_; · first | exact ⟨rfl, by decide, by simp [AV.sz, AV.szs, AV.memOK]⟩) | refine peel ?_)
  refine callK_use Tryz.func30 rfl rfl rfl ((c_law_one 3 7 4 _ _)) ?_
  try simp only [go_sem, ↓reduceIte, Nat.reduceEqDiff, Nat.reduceLT, Nat.reduceSub, Nat.reduceAdd, Nat.reduceMul, vis0, squash0, read0, top0]
  repeat (first | (refine And.intro ?_ ?_; · first | exact ⟨rfl, by decide, by simp [AV.sz, AV.szs, AV.memOK]⟩) | refine peel ?_)
  refine callK_use Tryz.func30 rfl rfl rfl ((c_law_one 1 7 2 _ _)) ?_
  try simp only [go_sem, ↓reduceIte, Nat.reduceEqDiff, Nat.reduceLT, Nat.reduceSub, Nat.reduceAdd, Nat.reduceMul, vis0, squash0, read0, top0]
  repeat (first | (refine And.intro ?_ ?_; · first | exact ⟨rfl, by decide, by simp [AV.sz, AV.szs, AV.memOK]⟩) | refine peel ?_)
  refine hK _ _ _ ?_; clear hK K
  refine awp_reg zs [1, 2, 3] fun K hK => ?_
  try simp only [go_sem, ↓reduceIte, Nat.reduceEqDiff, Nat.reduceLT, Nat.reduceSub, Nat.reduceAdd, Nat.reduceMul, vis0, squash0, read0, top0]
  repeat refine peel ?_
  refine callK_use Tryz.func31 rfl rfl rfl ((c_law_family 2 10 _ _)) ?_
  try simp only [go_sem, ↓reduceIte, Nat.reduceEqDiff, Nat.reduceLT, Nat.reduceSub, Nat.reduceAdd, Nat.reduceMul, vis0, squash0, read0, top0]
  repeat refine peel ?_
  refine callK_use Tryz.func18 rfl rfl rfl ((c_retain_Vis (familyE 2 10) 12 l0 (by decide) _ _)) ?_
  try simp only [go_sem, ↓reduceIte, Nat.reduceEqDiff, Nat.reduceLT, Nat.reduceSub, Nat.reduceAdd, Nat.reduceMul, vis0, squash0, read0, top0]
  repeat refine peel ?_
  refine hK _ _ _ ?_; clear hK K
  refine awp_reg zs [1, 2, 3, 4, 5] fun K hK => ?_
  try simp only [go_sem, ↓reduceIte, Nat.reduceEqDiff, Nat.reduceLT, Nat.reduceSub, Nat.reduceAdd, Nat.reduceMul, vis0, squash0, read0, top0]
  repeat refine peel ?_
  refine callK_use Tryz.func31 rfl rfl rfl ((c_law_family 2 10 _ _)) ?_
  try simp only [go_sem, ↓reduceIte, Nat.reduceEqDiff, Nat.reduceLT, Nat.reduceSub, Nat.reduceAdd, Nat.reduceMul, vis0, squash0, read0, top0]
  repeat refine peel ?_
  refine callK_use Tryz.func22 rfl rfl rfl ((c_retain_Squash (familyE 2 10) 12 0 false l0 (by decide) _ _)) ?_
  try simp only [go_sem, ↓reduceIte, Nat.reduceEqDiff, Nat.reduceLT, Nat.reduceSub, Nat.reduceAdd, Nat.reduceMul, vis0, squash0, read0, top0]
  repeat refine peel ?_
  refine hK _ _ _ ?_; clear hK K
  refine awp_reg zs [1, 2, 3, 4, 5, 6, 7] fun K hK => ?_
  try simp only [go_sem, ↓reduceIte, Nat.reduceEqDiff, Nat.reduceLT, Nat.reduceSub, Nat.reduceAdd, Nat.reduceMul, vis0, squash0, read0, top0]
  repeat refine peel ?_
  refine callK_use Tryz.func31 rfl rfl rfl ((c_law_family 2 10 _ _)) ?_
  try simp only [go_sem, ↓reduceIte, Nat.reduceEqDiff, Nat.reduceLT, Nat.reduceSub, Nat.reduceAdd, Nat.reduceMul, vis0, squash0, read0, top0]
  repeat refine peel ?_
  refine callK_use Tryz.func20 rfl rfl rfl ((c_retain_Read (familyE 2 10) 12 12 1 l0 (by decide) _ _)) ?_
  try simp only [go_sem, ↓reduceIte, Nat.reduceEqDiff, Nat.reduceLT, Nat.reduceSub, Nat.reduceAdd, Nat.reduceMul, vis0, squash0, read0, top0]
  repeat refine peel ?_
  refine hK _ _ _ ?_; clear hK K
  refine awp_reg zs [2, 3, 4, 5, 6, 7, 8, 9] fun K hK => ?_
  try simp only [go_sem, ↓reduceIte, Nat.reduceEqDiff, Nat.reduceLT, Nat.reduceSub, Nat.reduceAdd, Nat.reduceMul, vis0, squash0, read0, top0]
  repeat refine peel ?_
  refine callK_use Tryz.func31 rfl rfl rfl ((c_law_family 2 10 _ _)) ?_
  try simp only [go_sem, ↓reduceIte, Nat.reduceEqDiff, Nat.reduceLT, Nat.reduceSub, Nat.reduceAdd, Nat.reduceMul, vis0, squash0, read0, top0]
  repeat refine peel ?_
  refine callK_use Tryz.func24 rfl rfl rfl ((c_retain_Top (familyE 2 10) 12 l0 (by decide) _ _)) ?_
  try simp only [go_sem, ↓reduceIte, Nat.reduceEqDiff, Nat.reduceLT, Nat.reduceSub, Nat.reduceAdd, Nat.reduceMul, vis0, squash0, read0, top0]
  repeat refine peel ?_
  refine hK _ _ _ ?_; clear hK K
  refine awp_seq_k fun K1 hK1 => ?_
  refine awp_reg zs [2, 4, 6, 75] fun K hK => ?_
  try simp only [go_sem, ↓reduceIte, Nat.reduceEqDiff, Nat.reduceLT, Nat.reduceSub, Nat.reduceAdd, Nat.reduceMul, vis0, squash0, read0, top0]
  repeat refine peel ?_
  refine callK_use Tryz.func16 rfl rfl rfl ((by apply c_law_num <;> first | assumption | omega)) ?_
  try simp only [go_sem, ↓reduceIte, Nat.reduceEqDiff, Nat.reduceLT, Nat.reduceSub, Nat.reduceAdd, Nat.reduceMul, vis0, squash0, read0, top0]
  repeat refine peel ?_
  refine callG_use Tryz.func16 rfl rfl rfl (fun _ => (by apply c_law_num <;> first | assumption | omega)) ?_
  try simp only [go_sem, ↓reduceIte, Nat.reduceEqDiff, Nat.reduceLT, Nat.reduceSub, Nat.reduceAdd, Nat.reduceMul, vis0, squash0, read0, top0]
  repeat refine peel ?_
  refine callG_use Tryz.func16 rfl rfl rfl (fun _ => (by apply c_law_num <;> first | assumption | omega)) ?_
  try simp only [go_sem, ↓reduceIte, Nat.reduceEqDiff, Nat.reduceLT, Nat.reduceSub, Nat.reduceAdd, Nat.reduceMul, vis0, squash0, read0, top0]
  repeat refine peel ?_
  refine callG_use Tryz.func16 rfl rfl rfl (fun _ => (by apply c_law_num <;> first | assumption | omega)) ?_
  try simp only [go_sem, ↓reduceIte, Nat.reduceEqDiff, Nat.reduceLT, Nat.reduceSub, Nat.reduceAdd, Nat.reduceMul, vis0, squash0, read0, top0]
  repeat refine peel ?_
  refine hK _ _ _ ?_; clear hK K
  refine awp_cnd (fun hb => ?_) (fun hb => ?_)
  ·skip
   refine awp_reg zs [0] fun K hK => ?_
   try simp only [go_sem, ↓reduceIte, Nat.reduceEqDiff, Nat.reduceLT, Nat.reduceSub, Nat.reduceAdd, Nat.reduceMul, vis0, squash0, read0, top0]
   repeat refine peel ?_
   refine hK _ _ _ ?_; clear hK K
   refine awp_ret ?_
   try simp only [go_sem, ↓reduceIte, Nat.reduceEqDiff, Nat.reduceLT, Nat.reduceSub, Nat.reduceAdd, Nat.reduceMul, vis0, squash0, read0, top0]
   first | (simp [sameE]; done) | exact absurd hb (by decide)
  ·skip
   refine awp_skip ?_
   try simp only [go_sem, ↓reduceIte, Nat.reduceEqDiff, Nat.reduceLT, Nat.reduceSub, Nat.reduceAdd, Nat.reduceMul, vis0, squash0, read0, top0]
   refine hK1 _ _ _ ?_
   first | clear hK1 K1 | skip
   refine awp_drw rfl zs [0] [.m, .q, .q, .c, .c, .m, .m, .q, .q, .c, .c, .q, .m, .m, .q, .q, .c, .c, .q, .m, .m, .q, .q, .c, .c, .q, .q] (by kernel_rfl) (fun _ _ _ _ _ h => h) fun K hK => ?_
   try simp only [go_sem, ↓reduceIte, Nat.reduceEqDiff, Nat.reduceLT, Nat.reduceSub, Nat.reduceAdd, Nat.reduceMul, vis0, squash0, read0, top0]
   repeat refine peel ?_
   refine callQG_use Tryz.func30 rfl rfl rfl (fun _ n => (by apply c_law_one <;> first | assumption | omega)) ?_
   try simp only [go_sem, ↓reduceIte, Nat.reduceEqDiff, Nat.reduceLT, Nat.reduceSub, Nat.reduceAdd, Nat.reduceMul, vis0, squash0, read0, top0]
   repeat refine peel ?_
   refine callQG_use Tryz.func32 rfl rfl rfl (fun _ n => (by apply c_ref3_Same <;> first | assumption | omega)) ?_
   try simp only [go_sem, ↓reduceIte, Nat.reduceEqDiff, Nat.reduceLT, Nat.reduceSub, Nat.reduceAdd, Nat.reduceMul, vis0, squash0, read0, top0]
   repeat refine peel ?_
   refine callQG_use Tryz.func30 rfl rfl rfl (fun _ n => (by apply c_law_one <;> first | assumption | omega)) ?_
   try simp only [go_sem, ↓reduceIte, Nat.reduceEqDiff, Nat.reduceLT, Nat.reduceSub, Nat.reduceAdd, Nat.reduceMul, vis0, squash0, read0, top0]
   repeat refine peel ?_
   refine callQG_use Tryz.func32 rfl rfl rfl (fun _ n => (by apply c_ref3_Same <;> first | assumption | omega)) ?_
   try simp only [go_sem, ↓reduceIte, Nat.reduceEqDiff, Nat.reduceLT, Nat.reduceSub, Nat.reduceAdd, Nat.reduceMul, vis0, squash0, read0, top0]
   repeat refine peel ?_
   refine callQG_use Tryz.func30 rfl rfl rfl (fun _ n => (by apply c_law_one <;> first | assumption | omega)) ?_
   try simp only [go_sem, ↓reduceIte, Nat.reduceEqDiff, Nat.reduceLT, Nat.reduceSub, Nat.reduceAdd, Nat.reduceMul, vis0, squash0, read0, top0]
   repeat refine peel ?_
   refine callQG_use Tryz.func32 rfl rfl rfl (fun _ n => (by apply c_ref3_Same <;> first | assumption | omega)) ?_
   try simp only [go_sem, ↓reduceIte, Nat.reduceEqDiff, Nat.reduceLT, Nat.reduceSub, Nat.reduceAdd, Nat.reduceMul, vis0, squash0, read0, top0]
   repeat refine peel ?_
   refine callQG_use Tryz.func30 rfl rfl rfl (fun _ n => (by apply c_law_one <;> first | assumption | omega)) ?_
   try simp only [go_sem, ↓reduceIte, Nat.reduceEqDiff, Nat.reduceLT, Nat.reduceSub, Nat.reduceAdd, Nat.reduceMul, vis0, squash0, read0, top0]
   repeat refine peel ?_
   refine callQG_use Tryz.func32 rfl rfl rfl (fun _ n => (by apply c_ref3_Same <;> first | assumption | omega)) ?_
   try simp only [go_sem, ↓reduceIte, Nat.reduceEqDiff, Nat.reduceLT, Nat.reduceSub, Nat.reduceAdd, Nat.reduceMul, vis0, squash0, read0, top0]
   repeat refine peel ?_
   refine hK _ _ _ ?_; clear hK K
   refine awp_ret ?_
   try simp only [go_sem, ↓reduceIte, Nat.reduceEqDiff, Nat.reduceLT, Nat.reduceSub, Nat.reduceAdd, Nat.reduceMul, vis0, squash0, read0, top0]
   first | (simp [sameE]; done) | exact absurd hb (by decide)

def shownX (x e : Ent) : Bool := x.fam == e.fam && x.ts == e.ts && x.seq == e.seq && x.row == e.row && x.qual == e.qual && x.kind == e.kind
def shownB (l : List Ent) (e : Ent) : Bool := l.any fun x => shownX x e
theorem cond_and (a b : Bool) : (bif a then b else false) = (a && b) := by cases a <;> rfl


end Go.Proofs.YtijhkfhflpmajaaGreat
namespace Go.Proofs.YtijhkfhflpmajaaGreat
open Go Go.Sx Go.Rt Go.Proofs

theorem l_retain_copies (p : Lp) (b : List UInt8) (hb : b.length ≤ 140737488355328) (H : Heap) (n : Nat) (hp : p.here H b) : Ret Tryz.prog 98 [p.av b.length] H n (bys b) H n := by
  obtain ⟨hat, hlen, htk⟩ := hp
  refine acalls_of_awp Tryz.func98 rfl Tryz.ntmps98 (congrArg Array.toList Tryz.results98) (by simp) ?_
  simp only [go_sem]
  refine awp_rq zs [0] ?_
  refine awp_reg zs [2] fun K hK => ?_
  try simp only [go_sem, ↓reduceIte, Nat.reduceEqDiff, Nat.reduceLT, Nat.reduceSub, Nat.reduceAdd, Nat.reduceMul, hat, List.drop_zero, htk]
  repeat (first | (refine And.intro ?_ ?_; · first | (simp; omega) | exact ⟨rfl, by omega⟩ | exact ⟨⟨rfl, by omega⟩, .inr rfl, by simp; omega, by simp; omega⟩) | refine peel ?_)
  refine hK _ _ _ ?_; clear hK K
  refine awp_ret ?_
  try simp only [go_sem, ↓reduceIte, Nat.reduceEqDiff, Nat.reduceLT, Nat.reduceSub, Nat.reduceAdd, Nat.reduceMul]

theorem l_retain_copied (x : LEnt) (he : x.e.fits) (H : Heap) (n : Nat) (hx : x.ok H n) : Ret Tryz.prog 64 [lentAV x] H n (entAV x.e) H n := by
  obtain ⟨h1, h2, h3⟩ := he
  have zr : x.r.k ≠ n := by have := hx.r.lt; omega
  have zr9 : ∀ j, x.r.k ≠ n + j := fun j => by have := hx.r.lt; omega
  have zq : x.q.k ≠ n := by have := hx.q.lt; omega
  have zq9 : ∀ j, x.q.k ≠ n + j := fun j => by have := hx.q.lt; omega
  have zv : x.v.k ≠ n := by have := hx.v.lt; omega
  have zv9 : ∀ j, x.v.k ≠ n + j := fun j => by have := hx.v.lt; omega
  refine Ret.fin ?_
  refine acalls_of_awp Tryz.func64 rfl Tryz.ntmps64 (congrArg Array.toList Tryz.results64) (by simp) ?_
  simp only [go_sem]
  refine awp_rq zs [1, 2] ?_
  refine awp_drw rfl zs [1, 2] [.q, .q, .c, .q, .q, .c, .q, .q, .c, .q, .w [], .q, .w [], .q, .w []] (by kernel_rfl) (fun _ _ _ _ _ h => h) fun K hK => ?_
  try simp only [go_sem, ↓reduceIte, Nat.reduceEqDiff, Nat.reduceLT, Nat.reduceSub, Nat.reduceAdd, Nat.reduceMul]
  repeat refine peel ?_
  refine callQG_use Tryz.func98 rfl rfl rfl (fun _ n => (l_retain_copies x.r x.e.row h1 _ _ (hx.r.tohere.mono (by simp [Heap.put, zr, zr9])))) ?_
  try simp only [go_sem, ↓reduceIte, Nat.reduceEqDiff, Nat.reduceLT, Nat.reduceSub, Nat.reduceAdd, Nat.reduceMul]
  repeat refine peel ?_
  refine callQG_use Tryz.func98 rfl rfl rfl (fun _ n => (l_retain_copies x.q x.e.qual h2 _ _ (hx.q.tohere.mono (by simp [Heap.put, zq, zq9])))) ?_
  try simp only [go_sem, ↓reduceIte, Nat.reduceEqDiff, Nat.reduceLT, Nat.reduceSub, Nat.reduceAdd, Nat.reduceMul]
  repeat refine peel ?_
  refine callQG_use Tryz.func98 rfl rfl rfl (fun _ n => (l_retain_copies x.v x.e.value h3 _ _ (hx.v.tohere.mono (by simp [Heap.put, zv, zv9])))) ?_
  try simp only [go_sem, ↓reduceIte, Nat.reduceEqDiff, Nat.reduceLT, Nat.reduceSub, Nat.reduceAdd, Nat.reduceMul]
  repeat refine peel ?_
  refine hK _ _ _ ?_; clear hK K
  refine awp_rq zs [2] ?_
  refine awp_ret ?_
  try simp only [go_sem, ↓reduceIte, Nat.reduceEqDiff, Nat.reduceLT, Nat.reduceSub, Nat.reduceAdd, Nat.reduceMul]
  refine ⟨_, rfl, ?_, Frz.eq rfl (kl_ent x.e n)⟩
  intro k hk; have h0 : k ≠ n := by omega
  have h1 : ∀ j, k ≠ n + j := fun j => by omega
  simp [Heap.put, h0, h1]

theorem l_retain_same (x y : LEnt) (H : Heap) (n : Nat) (hx : x.ok H n) (hy : y.ok H n) : Ret Tryz.prog 63 [lentAV x, lentAV y] H n (.bool (sameE x.e y.e)) H n :=
  Ret.lend trivial (.cons hx.frz (.cons hy.frz .nil)) (c_retain_same x.e y.e _ _)
theorem l_cell_Check (x : LEnt) (H : Heap) (n : Nat) (hx : x.ok H n) : Ret Tryz.prog 35 [lentAV x] H n (.int .i64 (checkE x.e)) H n :=
  Ret.lend trivial (.cons hx.frz .nil) (c_cell_Check x.e _ _)
theorem l_retain_checked (s : List Fml) (x : LEnt) (H : Heap) (n : Nat) (hx : x.ok H n) : Ret Tryz.prog 73 [schAV s, lentAV x] H n (.int .i64 (checkedE s x.e)) H n :=
  Ret.lend trivial (.cons (.kl (kl_sch s 0)) (.cons hx.frz .nil)) (c_retain_checked s x.e _ _)

theorem l_retain_sorted (p : Lp) (l : List LEnt) (hl : l.length ≤ 1000000000) (hg : ∀ x ∈ l, x.e.fits) (H : Heap) (n : Nat) (hL : LList H n p l) :
    Ret Tryz.prog 36 [p.av l.length] H n (.tup [entsAV (sortedE (l.map (·.e))).1, .int .i64 (sortedE (l.map (·.e))).2]) H n := by
  refine Ret.fin ?_
  refine acalls_of_awp Tryz.func36 rfl Tryz.ntmps36 (congrArg Array.toList Tryz.results36) (by simp) ?_
  simp only [go_sem]
  refine awp_rq zs [0] ?_
  refine awp_rq zs [0, 4] ?_
  refine awp_rq zs [0, 4, 5] ?_
  refine awp_seq_k fun K1 hK1 => ?_
  refine awp_adopt_tmp 5 7 rfl ?_
  refine awp_rq zs [4, 5, 11, 12, 13] ?_
  refine awp_block ?_
  -- loop 0: head [4, 5, 11, 12, 13]
  refine awp_loop (fun T' H' n' => ∃ (i : Nat) (acc : List LEnt), i ≤ l.length ∧ acc.length ≤ i ∧ T' = tl [(4, .omap n), (5, .osl (n + 1) acc.length 0 acc.length), (11, .osl p.k p.ver 0 l.length), (12, .int .i64 l.length), (13, .int .i64 i)] ∧ n + 2 ≤ n' ∧ H' n = some (.map (acc.map seqPairL)) ∧ H' (n + 1) = some (.arr acc.length 7 ((acc.map (·.e)).map entAV)) ∧ (∀ k, k < n → H' k = H k) ∧ (∀ x ∈ acc, x ∈ l) ∧ ddE (acc.map (·.e)) ((l.drop i).map (·.e)) = ddE [] (l.map (·.e))) (fun T' _ _ => l.length - iv (T' 13)) ?_ ?_
  ·skip
   refine ⟨0, [], Nat.zero_le _, Nat.zero_le _, rfl, by omega, ?_, ?_, ?_, fun x hx => by (cases hx), rfl⟩
   · simp [Heap.put]
   · simp [Heap.put]
   · intro k hk; rw [Heap.put_ne _ _ (by omega), Heap.put_ne _ _ (by omega)]
  intro T1 H1 n1
  rintro ⟨i, acc, hi, hai, rfl, hn, hm, ho, hrest, hacc, hd⟩
  refine awp_rq zs [4, 5, 11, 12, 13, 14] ?_
  refine awp_seq_k fun K2 hK2 => ?_
  refine awp_cnd (fun hb => ?_) (fun hb => ?_)
  ·skip
   have hlt : i < l.length := by simpa using hb
   rw [drop_cons l i hlt, List.map_cons, ddE, seqOfL_e] at hd
   have hmem : l.getD i default ∈ l := by simp [List.getD, List.getElem?_eq_getElem hlt]
   have hfit := hg _ hmem
   have hnth : nth p.els i = lentAV (l.getD i default) := hL.nth hlt
   have hii : i < p.els.length := by have := hL.len; omega
   generalize l.getD i default = x at *
   have hpk : H1 p.k = some (.arr p.ver 7 p.els) := (hrest _ hL.lt).trans hL.at'
   have r1 : (p.k = n) = False := by have := hL.lt; simp; omega
   have r2 : (p.k = n1) = False := by have := hL.lt; simp; omega
   have r3 : (p.k = n + 1) = False := by have := hL.lt; simp; omega
   have q1 : (n = n1) = False := by simp; omega
   have q2 : (n + 1 = n1) = False := by simp; omega
   have q3 : (n = n1 + 1) = False := by simp; omega
   have q4 : (n + 1 = n1 + 1) = False := by simp; omega
   have q5 : (n1 = n + 1) = False := by simp; omega
   have q6 : (n1 + 1 = n + 1) = False := by simp; omega
   have q7 : (n1 = n) = False := by simp; omega
   have q8 : (n1 + 1 = n) = False := by simp; omega
   have hrest1 : ∀ (o o' : Option AObj) (k : Nat), k < n → ((H1.put n1 o).put (n1 + 1) o') k = H k := fun o o' k hk => by rw [Heap.put_ne _ _ (by omega), Heap.put_ne _ _ (by omega)]; exact hrest k hk
   refine awp_skip ?_
   try simp only [go_sem, ↓reduceIte, Nat.reduceEqDiff, Nat.reduceLT, Nat.reduceSub, Nat.reduceAdd, Nat.reduceMul]
   refine hK2 _ _ _ ?_
   first | clear hK2 K2 | skip
   refine awp_seq_k fun K3 hK3 => ?_
   refine awp_block ?_
   refine awp_reg zs [4, 5, 7, 11, 12, 13] fun K hK => ?_
   try simp only [go_sem, ↓reduceIte, Nat.reduceEqDiff, Nat.reduceLT, Nat.reduceSub, Nat.reduceAdd, Nat.reduceMul, Int.toNat_natCast, hnth, hpk, r1, r2, r3]
   repeat (first | (refine And.intro ?_ ?_; · first | exact hii | exact ⟨rfl, hii, by simp, trivial, trivial, rfl⟩) | refine peel ?_)
   refine hK _ _ _ ?_; clear hK K
   refine awp_reg zs [4, 5, 7, 8, 9, 11, 12, 13] fun K hK => ?_
   try simp only [go_sem, ↓reduceIte, Nat.reduceEqDiff, Nat.reduceLT, Nat.reduceSub, Nat.reduceAdd, Nat.reduceMul, hm, findK_seqL, lookL, q1, q2, q3, q4, q5, q6, entOL_sz, entOL_memOK, List.getD_cons_zero, List.getD_cons_succ]
   repeat (first | (refine And.intro ?_ ?_; · first | exact ⟨rfl, isKeysL acc⟩ | exact ⟨rfl, entOL_sz _, entOL_memOK _⟩) | refine peel ?_)
   refine hK _ _ _ ?_; clear hK K
   refine awp_seq_k fun K4 hK4 => ?_
   refine awp_reg zs [4, 5, 7, 9, 11, 12, 13, 30] fun K hK => ?_
   try simp only [go_sem, ↓reduceIte, Nat.reduceEqDiff, Nat.reduceLT, Nat.reduceSub, Nat.reduceAdd, Nat.reduceMul, q1, q2, q3, q4, q5, q6]
   repeat (first | (refine And.intro ?_ ?_; · first | exact fun _ => ⟨(by cases seqOfL acc x.e.seq <;> rfl), by rw [entOL_sz]⟩) | refine peel ?_)
   have hc9 : ∀ H9 n9, (∀ k, k < n → H9 k = H k) → n ≤ n9 → (seqOfL acc x.e.seq).isSome = true → Ret Tryz.prog 63 [entOL (seqOfL acc x.e.seq), lentAV x] H9 n9 (.bool (sameE ((seqOfL acc x.e.seq).getD default).e x.e)) H9 n9 := fun H9 n9 hH9 hn9 hg8 => by obtain ⟨y, hy⟩ := Option.isSome_iff_exists.1 hg8; rw [hy]; exact l_retain_same y x _ _ ((hL.ok y (hacc y (List.mem_of_find?_eq_some hy))).mono hH9 hn9) ((hL.ok x hmem).mono hH9 hn9)
   refine callG_use Tryz.func63 rfl rfl rfl (fun hg9 => hc9 _ _ (hrest1 _ _) (by omega) (by simpa using hg9)) ?_
   try simp only [go_sem, ↓reduceIte, Nat.reduceEqDiff, Nat.reduceLT, Nat.reduceSub, Nat.reduceAdd, Nat.reduceMul, q1, q2, q3, q4, q5, q6]
   repeat (first | (refine And.intro ?_ ?_; · first | exact fun _ => ⟨(by cases seqOfL acc x.e.seq <;> rfl), by rw [entOL_sz]⟩) | refine peel ?_)
   refine hK _ _ _ ?_; clear hK K
   refine awp_cnd (fun hb => ?_) (fun hb => ?_)
   ·skip
    obtain ⟨y, hy, hne⟩ := ddL_clash hb
    rw [hy, Option.map_some] at hd; simp only [if_neg hne] at hd
    have hs : sortedE (l.map (·.e)) = ([], 31) := by unfold sortedE; rw [← hd]
    have hend := hrest1
    refine awp_rq zs [2, 3] ?_
    refine awp_ret ?_
    try simp only [go_sem, ↓reduceIte, Nat.reduceEqDiff, Nat.reduceLT, Nat.reduceSub, Nat.reduceAdd, Nat.reduceMul]
    rw [hs]
    refine ⟨_, rfl, ?_, .tup (.cons ?_ (.cons (.kl trivial) .nil))⟩
    · first | exact hrest1 _ _ | (intro k hk; exact (Heap.put_ne _ _ (by omega)).trans (hrest k hk))
    · first | exact .nilsl | exact .osl (Heap.put_same _ _ _) (by omega) (by simp [hstl]) (by rw [show (List.take acc.length (List.drop 0 (List.map entV (stabL ltE (acc.map (·.e)))))) = List.map entAV (stabL ltE (acc.map (·.e))) by rw [List.drop_zero, List.take_of_length_le (by simp [hstl])]; rfl]; exact FrzL.kls _ (kls_ents _ _))
   ·skip
    have hag := ddL_agree hb
    refine awp_skip ?_
    try simp only [go_sem, ↓reduceIte, Nat.reduceEqDiff, Nat.reduceLT, Nat.reduceSub, Nat.reduceAdd, Nat.reduceMul]
    refine hK4 _ _ _ ?_
    first | clear hK4 K4 | skip
    refine awp_rq zs [4, 5, 7, 11, 12, 13, 32] ?_
    refine awp_cnd (fun hb => ?_) (fun hb => ?_)
    ·skip
     have hnone : seqOfL acc x.e.seq = none := by cases h9 : seqOfL acc x.e.seq <;> simp_all
     rw [hnone, Option.map_none] at hd; simp only at hd
     refine awp_reg zs [4, 5, 7, 11, 12, 13] fun K hK => ?_
     try simp only [go_sem, ↓reduceIte, Nat.reduceEqDiff, Nat.reduceLT, Nat.reduceSub, Nat.reduceAdd, Nat.reduceMul, hm, q1, q2, q3, q4, q5, q6, q7, q8, setK_seqL _ _ hnone]
     repeat (first | (refine And.intro ?_ ?_; · first | exact ⟨rfl, isKeysL acc⟩) | refine peel ?_)
     refine hK _ _ _ ?_; clear hK K
     refine awp_reg1 zs [4, 5, 11, 12, 13] fun K hK => ?_
     try simp only [go_sem, ↓reduceIte, Nat.reduceEqDiff, Nat.reduceLT, Nat.reduceSub, Nat.reduceAdd, Nat.reduceMul, ho, q1, q2, q3, q4, q5, q6, q7, q8]
     repeat (first | (refine And.intro ?_ ?_; · first | exact ⟨rfl, by decide, by simp [AV.sz, AV.szs, AV.memOK]⟩ | (simp; omega)) | refine peel ?_)
     refine callK_use Tryz.func64 rfl rfl rfl ((l_retain_copied x hfit _ _ ((hL.ok x hmem).mono (fun k hk => by have h1 : k ≠ n := (by omega); have h2 : k ≠ n + 1 := (by omega); have h3 : k ≠ n1 := (by omega); have h4 : k ≠ n1 + 1 := (by omega); simp only [Heap.put, h1, h2, h3, h4, if_false]; exact hrest k hk) (by omega)))) ?_
     try simp only [go_sem, ↓reduceIte, Nat.reduceEqDiff, Nat.reduceLT, Nat.reduceSub, Nat.reduceAdd, Nat.reduceMul, ho, q1, q2, q3, q4, q5, q6, q7, q8]
     repeat (first | (refine And.intro ?_ ?_; · first | exact ⟨rfl, by decide, by simp [AV.sz, AV.szs, AV.memOK]⟩ | (simp; omega)) | refine peel ?_)
     refine hK _ _ _ ?_; clear hK K
     try simp only [go_sem, ↓reduceIte, Nat.reduceEqDiff, Nat.reduceLT, Nat.reduceSub, Nat.reduceAdd, Nat.reduceMul]
     refine hK3 _ _ _ ?_
     first | clear hK3 K3 | skip
     refine awp_reg1 zs [4, 5, 11, 12, 13] fun K hK => ?_
     try simp only [go_sem, ↓reduceIte, Nat.reduceEqDiff, Nat.reduceLT, Nat.reduceSub, Nat.reduceAdd, Nat.reduceMul]
     repeat refine peel ?_
     refine hK _ _ _ ?_; clear hK K
     try simp only [go_sem, ↓reduceIte, Nat.reduceEqDiff, Nat.reduceLT, Nat.reduceSub, Nat.reduceAdd, Nat.reduceMul]
     first
     | (refine ⟨⟨i + 1, acc ++ [x], by omega, by simp; omega, by rw [w1 (by omega)]; simp, by omega, ?_, ?_, ?_, ?_, by simpa using hd⟩, by rw [w1 (by omega)]; simp; omega⟩
        · rw [← setK_seqL acc x hnone]; simp [Heap.put, q1, q2, q3, q4, q5, q6, q7, q8]; try rfl
        · simp [Heap.put, List.take_of_length_le]; rfl
        · intro k hk; have h1 : k ≠ n := by omega
          have h2 : k ≠ n + 1 := by omega
          have h3 : k ≠ n1 := by omega
          have h4 : k ≠ n1 + 1 := by omega
          simp only [Heap.put, h1, h2, h3, h4, if_false]; exact hrest k hk
        · intro y hy; rcases List.mem_append.1 hy with h9 | h9; (exact hacc y h9); (rw [List.mem_singleton.1 h9]; exact hmem))
     | (refine ⟨⟨i + 1, acc, by omega, by omega, by rw [w1 (by omega)], by omega, ?_, ?_, hrest1 _ _, hacc, hd⟩, by rw [w1 (by omega)]; simp; omega⟩
        · simp [Heap.put, q1, q2, q3, q4, q5, q6, q7, q8, hm]
        · simp [Heap.put, q1, q2, q3, q4, q5, q6, q7, q8, ho])
    ·skip
     have hsome : ∃ y, seqOfL acc x.e.seq = some y ∧ y.e = x.e := by rcases hag with h9 | h9; (rw [h9] at hb; simp at hb); exact h9
     obtain ⟨y, hy, hye⟩ := hsome
     rw [hy, Option.map_some] at hd; simp only [hye, if_true] at hd
     refine awp_skip ?_
     try simp only [go_sem, ↓reduceIte, Nat.reduceEqDiff, Nat.reduceLT, Nat.reduceSub, Nat.reduceAdd, Nat.reduceMul]
     refine hK3 _ _ _ ?_
     first | clear hK3 K3 | skip
     refine awp_reg1 zs [4, 5, 11, 12, 13] fun K hK => ?_
     try simp only [go_sem, ↓reduceIte, Nat.reduceEqDiff, Nat.reduceLT, Nat.reduceSub, Nat.reduceAdd, Nat.reduceMul]
     repeat refine peel ?_
     refine hK _ _ _ ?_; clear hK K
     try simp only [go_sem, ↓reduceIte, Nat.reduceEqDiff, Nat.reduceLT, Nat.reduceSub, Nat.reduceAdd, Nat.reduceMul]
     first
     | (refine ⟨⟨i + 1, acc ++ [x], by omega, by simp; omega, by rw [w1 (by omega)]; simp, by omega, ?_, ?_, ?_, ?_, by simpa using hd⟩, by rw [w1 (by omega)]; simp; omega⟩
        · rw [← setK_seqL acc x hnone]; simp [Heap.put, q1, q2, q3, q4, q5, q6, q7, q8]; try rfl
        · simp [Heap.put, List.take_of_length_le]; rfl
        · intro k hk; have h1 : k ≠ n := by omega
          have h2 : k ≠ n + 1 := by omega
          have h3 : k ≠ n1 := by omega
          have h4 : k ≠ n1 + 1 := by omega
          simp only [Heap.put, h1, h2, h3, h4, if_false]; exact hrest k hk
        · intro y hy; rcases List.mem_append.1 hy with h9 | h9; (exact hacc y h9); (rw [List.mem_singleton.1 h9]; exact hmem))
     | (refine ⟨⟨i + 1, acc, by omega, by omega, by rw [w1 (by omega)], by omega, ?_, ?_, hrest1 _ _, hacc, hd⟩, by rw [w1 (by omega)]; simp; omega⟩
        · simp [Heap.put, q1, q2, q3, q4, q5, q6, q7, q8, hm]
        · simp [Heap.put, q1, q2, q3, q4, q5, q6, q7, q8, ho])
  ·skip
   have hge : i = l.length := by simp at hb; omega
   rw [hge, List.drop_length, List.map_nil, ddE] at hd
   have hs : sortedE (l.map (·.e)) = (stabL ltE (acc.map (·.e)), 0) := by unfold sortedE; rw [← hd]
   have hstl := stabL_length (acc.map (·.e))
   have hal : (acc.map (·.e)).length = acc.length := List.length_map _
   refine awp_exit ?_
   try simp only [go_sem, ↓reduceIte, Nat.reduceEqDiff, Nat.reduceLT, Nat.reduceSub, Nat.reduceAdd, Nat.reduceMul]
   refine hK1 _ _ _ ?_
   first | clear hK1 K1 | skip
   refine awp_reg zs [5] fun K hK => ?_
   try simp only [go_sem, ↓reduceIte, Nat.reduceEqDiff, Nat.reduceLT, Nat.reduceSub, Nat.reduceAdd, Nat.reduceMul]
   repeat refine peel ?_
   refine callK_use Tryz.func65 rfl rfl rfl ((c_slices_SortStable (n + 1) acc.length (acc.map fun (y : LEnt) => y.e) acc.length hal _ _ (by omega) ho (by omega))) ?_
   try simp only [go_sem, ↓reduceIte, Nat.reduceEqDiff, Nat.reduceLT, Nat.reduceSub, Nat.reduceAdd, Nat.reduceMul]
   repeat refine peel ?_
   refine hK _ _ _ ?_; clear hK K
   refine awp_rq zs [2, 3] ?_
   refine awp_ret ?_
   try simp only [go_sem, ↓reduceIte, Nat.reduceEqDiff, Nat.reduceLT, Nat.reduceSub, Nat.reduceAdd, Nat.reduceMul]
   rw [hs]
   refine ⟨_, rfl, ?_, .tup (.cons ?_ (.cons (.kl trivial) .nil))⟩
   · first | exact hrest1 _ _ | (intro k hk; exact (Heap.put_ne _ _ (by omega)).trans (hrest k hk))
   · first | exact .nilsl | exact .osl (Heap.put_same _ _ _) (by omega) (by simp [hstl]) (by rw [show (List.take acc.length (List.drop 0 (List.map entV (stabL ltE (acc.map (·.e)))))) = List.map entAV (stabL ltE (acc.map (·.e))) by rw [List.drop_zero, List.take_of_length_le (by simp [hstl])]; rfl]; exact FrzL.kls _ (kls_ents _ _))


end Go.Proofs.YtijhkfhflpmajaaGreat
namespace Go.Proofs.YtijhkfhflpmajaaGreat
open Go Go.Sx Go.Rt Go.Proofs

theorem l_retain_prepare (p : Lp) (s : List Fml) (clock : Int) (times : List Int) (ht : times.length ≤ 1048576) (k : Int) (l : List LEnt) (hl : l.length ≤ 1000000000) (H : Heap) (n : Nat) (hL : LList H n p l) :
    Ret Tryz.prog 41 [schAV s, .int .i64 clock, intsAV times, .int .i64 k, p.av l.length] H n (.tup [entsAV (prepE s clock times k (l.map (·.e))).1, .int .i64 (prepE s clock times k (l.map (·.e))).2]) H n := by
  refine Ret.fin ?_
  refine acalls_of_awp Tryz.func41 rfl Tryz.ntmps41 (congrArg Array.toList Tryz.results41) (by simp) ?_
  simp only [go_sem]
  refine awp_rq zs [1, 2, 3, 4, 5] ?_
  refine awp_seq_k fun K1 hK1 => ?_
  refine awp_reg zs [4, 5, 12] fun K hK => ?_
  try simp only [go_sem, ↓reduceIte, Nat.reduceEqDiff, Nat.reduceLT, Nat.reduceSub, Nat.reduceAdd, Nat.reduceMul]
  repeat refine peel ?_
  refine callK_use Tryz.func72 rfl rfl rfl ((c_retain_bounds s clock times k ht _ _)) ?_
  try simp only [go_sem, ↓reduceIte, Nat.reduceEqDiff, Nat.reduceLT, Nat.reduceSub, Nat.reduceAdd, Nat.reduceMul]
  repeat refine peel ?_
  refine hK _ _ _ ?_; clear hK K
  refine awp_rq zs [4, 5, 12, 22] ?_
  refine awp_cnd (fun hb => ?_) (fun hb => ?_)
  ·skip
   have hb0 : boundsE s clock times k ≠ 0 := by simpa using hb
   have hp : prepE s clock times k (l.map (·.e)) = ([], boundsE s clock times k) := by unfold prepE; rw [if_pos hb0]
   refine awp_rq zs [10, 11] ?_
   refine awp_ret ?_
   try simp only [go_sem, ↓reduceIte, Nat.reduceEqDiff, Nat.reduceLT, Nat.reduceSub, Nat.reduceAdd, Nat.reduceMul]
   rw [hp]
   refine ⟨_, rfl, ?_, ?_⟩
   · intro k hk; have h1 : k ≠ n := by omega
     have h2 : ∀ j, n + 1 ≤ j → k ≠ j := fun j hj => by omega
     first | (simp only [Heap.put, h1, if_false]; done) | exact hrest k hk | (rw [if_neg (by omega)]; exact hrest k hk)
   · first | exact .tup (.cons .nilsl (.cons (.kl trivial) .nil)) | exact .kl ⟨kls_ents _ _, trivial, trivial⟩
  ·skip
   have hb0 : ¬ boundsE s clock times k ≠ 0 := by simpa using hb
   refine awp_skip ?_
   try simp only [go_sem, ↓reduceIte, Nat.reduceEqDiff, Nat.reduceLT, Nat.reduceSub, Nat.reduceAdd, Nat.reduceMul]
   refine hK1 _ _ _ ?_
   first | clear hK1 K1 | skip
   refine awp_seq_k fun K2 hK2 => ?_
   refine awp_rq zs [4, 5, 24, 25, 26] ?_
   refine awp_block ?_
   -- loop 0: head [4, 5, 24, 25, 26]
   refine awp_loop (fun T' H' n' => ∃ (i : Nat), i ≤ l.length ∧ T' = tl [(4, .osl p.k p.ver 0 l.length), (5, .loc n 0 0 0 []), (24, .osl p.k p.ver 0 l.length), (25, .int .i64 l.length), (26, .int .i64 i)] ∧ n + 1 ≤ n' ∧ H' n = some (.arr 0 1 [schAV s]) ∧ (∀ k, k < n → H' k = H k) ∧ badsE s ((l.drop i).map (·.e)) = badsE s (l.map (·.e))) (fun T' _ _ => l.length - iv (T' 26)) ?_ ?_
   ·skip
    refine ⟨0, Nat.zero_le _, rfl, by omega, ?_, ?_, rfl⟩
    · simp [Heap.put, schAV]
    · intro k hk; rw [Heap.put_ne _ _ (by omega)]
   intro T1 H1 n1
   rintro ⟨i, hi, rfl, hn, hsc, hrest, hd⟩
   refine awp_rq zs [4, 5, 24, 25, 26, 27] ?_
   refine awp_seq_k fun K3 hK3 => ?_
   refine awp_cnd (fun hb => ?_) (fun hb => ?_)
   ·skip
    have hlt : i < l.length := by simpa using hb
    rw [drop_cons l i hlt, List.map_cons, badsE] at hd
    have hmem : l.getD i default ∈ l := by simp [List.getD, List.getElem?_eq_getElem hlt]
    have hnth : nth p.els i = lentAV (l.getD i default) := hL.nth hlt
    have hii : i < p.els.length := by have := hL.len; omega
    generalize l.getD i default = x at *
    have hpk : H1 p.k = some (.arr p.ver 7 p.els) := (hrest _ hL.lt).trans hL.at'
    have r1 : (p.k = n) = False := by have := hL.lt; simp; omega
    have r2 : (p.k = n1) = False := by have := hL.lt; simp; omega
    have hrest1 : ∀ (o : Option AObj) (k : Nat), k < n → (H1.put n1 o) k = H k := fun o k hk => by rw [Heap.put_ne _ _ (by omega)]; exact hrest k hk
    have q1 : (n = n1) = False := by simp; omega
    have q2 : (n1 = n) = False := by simp; omega
    refine awp_skip ?_
    try simp only [go_sem, ↓reduceIte, Nat.reduceEqDiff, Nat.reduceLT, Nat.reduceSub, Nat.reduceAdd, Nat.reduceMul]
    refine hK3 _ _ _ ?_
    first | clear hK3 K3 | skip
    refine awp_seq_k fun K4 hK4 => ?_
    refine awp_block ?_
    refine awp_reg zs [4, 5, 14, 24, 25, 26] fun K hK => ?_
    try simp only [go_sem, ↓reduceIte, Nat.reduceEqDiff, Nat.reduceLT, Nat.reduceSub, Nat.reduceAdd, Nat.reduceMul, Int.toNat_natCast, hnth, hpk, r1, r2]
    repeat (first | (refine And.intro ?_ ?_; · first | exact hii | exact ⟨rfl, hii, by simp, trivial, trivial, rfl⟩) | refine peel ?_)
    refine hK _ _ _ ?_; clear hK K
    refine awp_reg zs [4, 5, 15, 24, 25, 26] fun K hK => ?_
    try simp only [go_sem, ↓reduceIte, Nat.reduceEqDiff, Nat.reduceLT, Nat.reduceSub, Nat.reduceAdd, Nat.reduceMul, hsc, q1, q2]
    repeat refine peel ?_
    refine callK_use Tryz.func73 rfl rfl rfl ((l_retain_checked s x _ _ ((hL.ok x hmem).mono (hrest1 _) (by omega)))) ?_
    try simp only [go_sem, ↓reduceIte, Nat.reduceEqDiff, Nat.reduceLT, Nat.reduceSub, Nat.reduceAdd, Nat.reduceMul, hsc, q1, q2]
    repeat refine peel ?_
    refine hK _ _ _ ?_; clear hK K
    refine awp_rq zs [4, 5, 15, 24, 25, 26, 34] ?_
    refine awp_cnd (fun hb => ?_) (fun hb => ?_)
    ·skip
     have hne : checkedE s x.e ≠ 0 := by simpa using hb
     rw [if_pos hne] at hd
     have hp : prepE s clock times k (l.map (·.e)) = ([], checkedE s x.e) := by unfold prepE; rw [if_neg hb0, ← hd, if_pos hne]
     refine awp_rq zs [10, 11] ?_
     refine awp_ret ?_
     try simp only [go_sem, ↓reduceIte, Nat.reduceEqDiff, Nat.reduceLT, Nat.reduceSub, Nat.reduceAdd, Nat.reduceMul]
     rw [hp]
     refine ⟨_, rfl, ?_, ?_⟩
     · intro k hk; have h1 : k ≠ n := by omega
       have h2 : ∀ j, n + 1 ≤ j → k ≠ j := fun j hj => by omega
       first | (simp only [Heap.put, h1, if_false]; done) | exact hrest k hk | (rw [if_neg (by omega)]; exact hrest k hk)
     · first | exact .tup (.cons .nilsl (.cons (.kl trivial) .nil)) | exact .kl ⟨kls_ents _ _, trivial, trivial⟩
    ·skip
     have hne : ¬ checkedE s x.e ≠ 0 := by simpa using hb
     rw [if_neg hne] at hd
     refine awp_skip ?_
     try simp only [go_sem, ↓reduceIte, Nat.reduceEqDiff, Nat.reduceLT, Nat.reduceSub, Nat.reduceAdd, Nat.reduceMul]
     refine hK4 _ _ _ ?_
     first | clear hK4 K4 | skip
     refine awp_reg1 zs [4, 5, 24, 25, 26] fun K hK => ?_
     try simp only [go_sem, ↓reduceIte, Nat.reduceEqDiff, Nat.reduceLT, Nat.reduceSub, Nat.reduceAdd, Nat.reduceMul]
     repeat refine peel ?_
     refine hK _ _ _ ?_; clear hK K
     try simp only [go_sem, ↓reduceIte, Nat.reduceEqDiff, Nat.reduceLT, Nat.reduceSub, Nat.reduceAdd, Nat.reduceMul]
     refine ⟨⟨i + 1, by omega, by rw [w1 (by omega)], by omega, ?_, ?_, hd⟩, by rw [w1 (by omega)]; simp; omega⟩
     · simp [Heap.put, q1, hsc, schAV]
     · intro k hk; have h1 : k ≠ n1 := by omega
       simp only [Heap.put, h1, if_false]; exact hrest k hk
   ·skip
    have hge : i = l.length := by simp at hb; omega
    rw [hge, List.drop_length, List.map_nil, badsE] at hd
    have hp : prepE s clock times k (l.map (·.e)) = sortedE (l.map (·.e)) := by unfold prepE; rw [if_neg hb0, ← hd]; simp
    refine awp_exit ?_
    try simp only [go_sem, ↓reduceIte, Nat.reduceEqDiff, Nat.reduceLT, Nat.reduceSub, Nat.reduceAdd, Nat.reduceMul]
    refine hK2 _ _ _ ?_
    first | clear hK2 K2 | skip
    refine awp_reg zs [10, 11] fun K hK => ?_
    try simp only [go_sem, ↓reduceIte, Nat.reduceEqDiff, Nat.reduceLT, Nat.reduceSub, Nat.reduceAdd, Nat.reduceMul]
    repeat refine peel ?_
    refine callK_use Tryz.func36 rfl rfl rfl ((l_retain_sorted p l hl (fun x hx => fits_of (checkedE_zero (badsE_fits s (l.map (·.e)) hd.symm x.e (List.mem_map.2 ⟨x, hx, rfl⟩))).1) _ _ (hL.mono hrest (by omega)))) ?_
    try simp only [go_sem, ↓reduceIte, Nat.reduceEqDiff, Nat.reduceLT, Nat.reduceSub, Nat.reduceAdd, Nat.reduceMul]
    repeat refine peel ?_
    refine hK _ _ _ ?_; clear hK K
    refine awp_ret ?_
    try simp only [go_sem, ↓reduceIte, Nat.reduceEqDiff, Nat.reduceLT, Nat.reduceSub, Nat.reduceAdd, Nat.reduceMul]
    rw [hp]
    refine ⟨_, rfl, ?_, ?_⟩
    · intro k hk; have h1 : k ≠ n := by omega
      have h2 : ∀ j, n + 1 ≤ j → k ≠ j := fun j hj => by omega
      first | (simp only [Heap.put, h1, if_false]; done) | exact hrest k hk | (rw [if_neg (by omega)]; exact hrest k hk)
    · first | exact .tup (.cons .nilsl (.cons (.kl trivial) .nil)) | exact .kl ⟨kls_ents _ _, trivial, trivial⟩
theorem l_retain_Squash (p : Lp) (s : List Fml) (clock low : Int) (major : Bool) (l : List LEnt) (hl : l.length ≤ 100000000) (H : Heap) (n : Nat) (hL : LList H n p l) :
    Ret Tryz.prog 22 [schAV s, .int .i64 clock, .bool major, .int .i64 low, p.av l.length] H n (.tup [entsAV (squashE s clock major low (l.map (·.e))).1, .int .i64 (squashE s clock major low (l.map (·.e))).2]) H n := by
  refine Ret.fin ?_
  refine acalls_of_awp Tryz.func22 rfl Tryz.ntmps22 (congrArg Array.toList Tryz.results22) (by simp) ?_
  simp only [go_sem]
  refine awp_rq zs [1, 2, 3, 4, 5] ?_
  refine awp_reg zs [1, 2, 3, 4, 5, 12] fun K hK => ?_
  try simp only [go_sem, ↓reduceIte, Nat.reduceEqDiff, Nat.reduceLT, Nat.reduceSub, Nat.reduceAdd, Nat.reduceMul]
  repeat (first | (refine And.intro ?_ ?_; · first | exact ⟨rfl, by decide, by simp [AV.sz, AV.memOK]⟩) | refine peel ?_)
  refine callK_use Tryz.func41 rfl rfl rfl ((l_retain_prepare p s clock [low] (by simp) 1 l (by omega) _ _ (hL.mono (fun k hk => Heap.put_ne _ _ (by omega)) (by omega)))) ?_
  try simp only [go_sem, ↓reduceIte, Nat.reduceEqDiff, Nat.reduceLT, Nat.reduceSub, Nat.reduceAdd, Nat.reduceMul]
  repeat (first | (refine And.intro ?_ ?_; · first | exact ⟨rfl, by decide, by simp [AV.sz, AV.memOK]⟩) | refine peel ?_)
  refine hK _ _ _ ?_; clear hK K
  refine awp_seq_k fun K1 hK1 => ?_
  refine awp_rq zs [1, 2, 3, 4, 5, 12, 25] ?_
  refine awp_cnd (fun hb => ?_) (fun hb => ?_)
  ·skip
   have hne : (prepE s clock [low] 1 (l.map (·.e))).2 ≠ 0 := by simpa using hb
   have hq : squashE s clock major low (l.map (·.e)) = ([], (prepE s clock [low] 1 (l.map (·.e))).2) := by unfold squashE; rw [if_pos hne]
   refine awp_rq zs [10, 11] ?_
   refine awp_ret ?_
   try simp only [go_sem, ↓reduceIte, Nat.reduceEqDiff, Nat.reduceLT, Nat.reduceSub, Nat.reduceAdd, Nat.reduceMul]
   rw [hq]
   refine ⟨_, rfl, ?_, .tup (.cons ?_ (.cons (.kl trivial) .nil))⟩
   · intro k hk
     have h1 : k ≠ n := by omega
     first | (simp only [h1, if_false]; done) | (rw [hL.rest k (by omega) (show k ≠ kw by omega) (fun h => by rcases h with h | h <;> omega), hlow k (by omega), Heap.put_ne _ _ h1])
   · first | exact .nilsl | exact .osl hh2 (Nat.le_of_succ_le hko) (by simp) (by rw [List.drop_zero, List.take_of_length_le (by simp)]; exact FrzL.kls _ (kls_ents _ _))
  ·skip
   have hne : (prepE s clock [low] 1 (l.map (·.e))).2 = 0 := by simpa using hb
   have hq : squashE s clock major low (l.map (·.e)) = ((keptOf s clock major low (prepE s clock [low] 1 (l.map (·.e))).1).out, 0) := by unfold squashE; rw [if_neg (by simp [hne])]
   obtain ⟨hbz, _, _, hmem, hlen⟩ := prepE_zero hne
   rw [List.length_map] at hlen
   generalize (prepE s clock [low] 1 (l.map (·.e))).1 = m at *
   refine awp_skip ?_
   try simp only [go_sem, ↓reduceIte, Nat.reduceEqDiff, Nat.reduceLT, Nat.reduceSub, Nat.reduceAdd, Nat.reduceMul]
   refine hK1 _ _ _ ?_
   first | clear hK1 K1 | skip
   refine awp_reg zs [4, 13, 14] fun K hK => ?_
   try simp only [go_sem, ↓reduceIte, Nat.reduceEqDiff, Nat.reduceLT, Nat.reduceSub, Nat.reduceAdd, Nat.reduceMul]
   repeat refine peel ?_
   refine callK_useK (args' := [schAV s, .int .i64 clock, .bool major, .int .i64 low]) Tryz.func45 rfl rfl rfl (c_retain_keeping s clock low major _ (n + 1)) ?_ ?_
   rotate_left
   · intro p H' n' h; obtain ⟨kw, kt, ko, hh, hres, _⟩ := h; cases hres
   rintro r H2 n2 ⟨kw, kt, ko, hh, hres, hne2, hkw, hkt, hko, hn2, hah, hlow⟩
   cases hres
   try simp only [go_sem, ↓reduceIte, Nat.reduceEqDiff, Nat.reduceLT, Nat.reduceSub, Nat.reduceAdd, Nat.reduceMul]
   repeat refine peel ?_
   refine hK _ _ _ ?_; clear hK K
   refine awp_reg zs [14] fun K hK => ?_
   try simp only [go_sem, ↓reduceIte, Nat.reduceEqDiff, Nat.reduceLT, Nat.reduceSub, Nat.reduceAdd, Nat.reduceMul]
   repeat refine peel ?_
   refine callK_useK (args' := [.loc kw 0 0 0 [], entsAV m]) Tryz.func43 rfl rfl rfl (c_retain_walk_run (keptTk kw kt ko hh) KSt.ok (kept_tkOK kw kt ko hh hne2) 1000000000000 kInv (kept_inv kw kt ko hh) s (ttl_of (boundsE_zero hbz).1) m (wlk0 s clock) (kst0 major low) H2 n2 hah (by omega) (by omega) (kInv0 major low) (wrk0 s clock) (fun e he => goodE_of (hmem e he).2)) ?_ ?_
   rotate_left
   · intro p H' n' h; cases h.1
   rintro r H3 n3 ⟨hr3, hL⟩
   cases hr3
   have hh1 := hL.tk.1
   have hh2 := hL.tk.2
   rw [kept_run] at hh1 hh2
   simp only [keptAV] at hh1
   try simp only [go_sem, ↓reduceIte, Nat.reduceEqDiff, Nat.reduceLT, Nat.reduceSub, Nat.reduceAdd, Nat.reduceMul]
   repeat refine peel ?_
   refine hK _ _ _ ?_; clear hK K
   refine awp_reg zs [10, 11] fun K hK => ?_
   try simp only [go_sem, ↓reduceIte, Nat.reduceEqDiff, Nat.reduceLT, Nat.reduceSub, Nat.reduceAdd, Nat.reduceMul, hh1]
   repeat refine peel ?_
   refine hK _ _ _ ?_; clear hK K
   refine awp_ret ?_
   try simp only [go_sem, ↓reduceIte, Nat.reduceEqDiff, Nat.reduceLT, Nat.reduceSub, Nat.reduceAdd, Nat.reduceMul]
   rw [hq]
   refine ⟨_, rfl, ?_, .tup (.cons ?_ (.cons (.kl trivial) .nil))⟩
   · intro k hk
     have h1 : k ≠ n := by omega
     first | (simp only [h1, if_false]; done) | (rw [hL.rest k (by omega) (show k ≠ kw by omega) (fun h => by rcases h with h | h <;> omega), hlow k (by omega), Heap.put_ne _ _ h1])
   · first | exact .nilsl | exact .osl hh2 (Nat.le_of_succ_le hko) (by simp) (by rw [List.drop_zero, List.take_of_length_le (by simp)]; exact FrzL.kls _ (kls_ents _ _))

theorem l_retain_Read (p : Lp) (s : List Fml) (clock t vn : Int) (l : List LEnt) (hl : l.length ≤ 100000000) (H : Heap) (n : Nat) (hL : LList H n p l) :
    Ret Tryz.prog 20 [schAV s, .int .i64 clock, .int .i64 t, .int .i64 vn, p.av l.length] H n (.tup [entsAV (readE s clock t vn (l.map (·.e))).1, .int .i64 (readE s clock t vn (l.map (·.e))).2]) H n := by
  refine Ret.fin ?_
  refine acalls_of_awp Tryz.func20 rfl Tryz.ntmps20 (congrArg Array.toList Tryz.results20) (by simp) ?_
  simp only [go_sem]
  refine awp_rq zs [1, 2, 3, 4, 5] ?_
  refine awp_reg zs [1, 2, 3, 4, 5, 12] fun K hK => ?_
  try simp only [go_sem, ↓reduceIte, Nat.reduceEqDiff, Nat.reduceLT, Nat.reduceSub, Nat.reduceAdd, Nat.reduceMul]
  repeat (first | (refine And.intro ?_ ?_; · first | exact ⟨rfl, by decide, by simp [AV.sz, AV.memOK]⟩) | refine peel ?_)
  refine callK_use Tryz.func41 rfl rfl rfl ((l_retain_prepare p s clock [t] (by simp) vn l (by omega) _ _ (hL.mono (fun k hk => Heap.put_ne _ _ (by omega)) (by omega)))) ?_
  try simp only [go_sem, ↓reduceIte, Nat.reduceEqDiff, Nat.reduceLT, Nat.reduceSub, Nat.reduceAdd, Nat.reduceMul]
  repeat (first | (refine And.intro ?_ ?_; · first | exact ⟨rfl, by decide, by simp [AV.sz, AV.memOK]⟩) | refine peel ?_)
  refine hK _ _ _ ?_; clear hK K
  refine awp_seq_k fun K1 hK1 => ?_
  refine awp_rq zs [1, 2, 3, 4, 5, 12, 26] ?_
  refine awp_cnd (fun hb => ?_) (fun hb => ?_)
  ·skip
   have hne : (prepE s clock [t] vn (l.map (·.e))).2 ≠ 0 := by simpa using hb
   have hq : readE s clock t vn (l.map (·.e)) = ([], (prepE s clock [t] vn (l.map (·.e))).2) := by unfold readE; rw [if_pos hne]
   refine awp_rq zs [10, 11] ?_
   refine awp_ret ?_
   try simp only [go_sem, ↓reduceIte, Nat.reduceEqDiff, Nat.reduceLT, Nat.reduceSub, Nat.reduceAdd, Nat.reduceMul]
   rw [hq]
   refine ⟨_, rfl, ?_, .tup (.cons ?_ (.cons (.kl trivial) .nil))⟩
   · intro k hk
     have h1 : k ≠ n := by omega
     first | (simp only [h1, if_false]; done) | (rw [hL.rest k (by omega) (show k ≠ kw by omega) (fun h => by rcases h with h | h <;> omega), hlow k (by omega), Heap.put_ne _ _ h1])
   · first | exact .nilsl | exact .osl hh2 (Nat.le_of_succ_le hko) (by simp) (by rw [List.drop_zero, List.take_of_length_le (by simp)]; exact FrzL.kls _ (kls_ents _ _))
  ·skip
   have hne : (prepE s clock [t] vn (l.map (·.e))).2 = 0 := by simpa using hb
   have hq : readE s clock t vn (l.map (·.e)) = ((shownOf s clock t vn (prepE s clock [t] vn (l.map (·.e))).1).out, 0) := by unfold readE; rw [if_neg (by simp [hne])]
   obtain ⟨hbz, _, _, hmem, hlen⟩ := prepE_zero hne
   rw [List.length_map] at hlen
   generalize (prepE s clock [t] vn (l.map (·.e))).1 = m at *
   refine awp_skip ?_
   try simp only [go_sem, ↓reduceIte, Nat.reduceEqDiff, Nat.reduceLT, Nat.reduceSub, Nat.reduceAdd, Nat.reduceMul]
   refine hK1 _ _ _ ?_
   first | clear hK1 K1 | skip
   refine awp_reg zs [4, 13, 14] fun K hK => ?_
   try simp only [go_sem, ↓reduceIte, Nat.reduceEqDiff, Nat.reduceLT, Nat.reduceSub, Nat.reduceAdd, Nat.reduceMul]
   repeat refine peel ?_
   refine callK_useK (args' := [schAV s, .int .i64 clock, .int .i64 t, .int .i64 vn]) Tryz.func42 rfl rfl rfl (c_retain_showing s clock t vn _ (n + 1)) ?_ ?_
   rotate_left
   · intro p H' n' h; obtain ⟨kw, kt, ko, hh, hres, _⟩ := h; cases hres
   rintro r H2 n2 ⟨kw, kt, ko, hh, hres, hne2, hkw, hkt, hko, hn2, hah, hlow⟩
   cases hres
   try simp only [go_sem, ↓reduceIte, Nat.reduceEqDiff, Nat.reduceLT, Nat.reduceSub, Nat.reduceAdd, Nat.reduceMul]
   repeat refine peel ?_
   refine hK _ _ _ ?_; clear hK K
   refine awp_reg zs [14] fun K hK => ?_
   try simp only [go_sem, ↓reduceIte, Nat.reduceEqDiff, Nat.reduceLT, Nat.reduceSub, Nat.reduceAdd, Nat.reduceMul]
   repeat refine peel ?_
   refine callK_useK (args' := [.loc kw 0 0 0 [], entsAV m]) Tryz.func43 rfl rfl rfl (c_retain_walk_run (shownTk kw kt ko hh) SSt.ok (shown_tkOK kw kt ko hh hne2) 400000000000 sInv (shown_inv kw kt ko hh) s (ttl_of (boundsE_zero hbz).1) m (wlk0 s clock) (sst0 t vn) H2 n2 hah (by omega) (by omega) (sInv0 t vn) (wrk0 s clock) (fun e he => goodE_of (hmem e he).2)) ?_ ?_
   rotate_left
   · intro p H' n' h; cases h.1
   rintro r H3 n3 ⟨hr3, hL⟩
   cases hr3
   have hh1 := hL.tk.1
   have hh2 := hL.tk.2
   rw [shown_run] at hh1 hh2
   simp only [shownAV] at hh1
   try simp only [go_sem, ↓reduceIte, Nat.reduceEqDiff, Nat.reduceLT, Nat.reduceSub, Nat.reduceAdd, Nat.reduceMul]
   repeat refine peel ?_
   refine hK _ _ _ ?_; clear hK K
   refine awp_reg zs [10, 11] fun K hK => ?_
   try simp only [go_sem, ↓reduceIte, Nat.reduceEqDiff, Nat.reduceLT, Nat.reduceSub, Nat.reduceAdd, Nat.reduceMul, hh1]
   repeat refine peel ?_
   refine hK _ _ _ ?_; clear hK K
   refine awp_ret ?_
   try simp only [go_sem, ↓reduceIte, Nat.reduceEqDiff, Nat.reduceLT, Nat.reduceSub, Nat.reduceAdd, Nat.reduceMul]
   rw [hq]
   refine ⟨_, rfl, ?_, .tup (.cons ?_ (.cons (.kl trivial) .nil))⟩
   · intro k hk
     have h1 : k ≠ n := by omega
     first | (simp only [h1, if_false]; done) | (rw [hL.rest k (by omega) (show k ≠ kw by omega) (fun h => by rcases h with h | h <;> omega), hlow k (by omega), Heap.put_ne _ _ h1])
   · first | exact .nilsl | exact .osl hh2 (Nat.le_of_succ_le hko) (by simp) (by rw [List.drop_zero, List.take_of_length_le (by simp)]; exact FrzL.kls _ (kls_ents _ _))

theorem l_retain_Vis (p : Lp) (s : List Fml) (clock : Int) (l : List LEnt) (hl : l.length ≤ 100000000) (H : Heap) (n : Nat) (hL : LList H n p l) :
    Ret Tryz.prog 18 [schAV s, .int .i64 clock, p.av l.length] H n (.tup [entsAV (visE s clock (l.map (·.e))).1, .int .i64 (visE s clock (l.map (·.e))).2]) H n := by
  refine Ret.fin ?_
  refine acalls_of_awp Tryz.func18 rfl Tryz.ntmps18 (congrArg Array.toList Tryz.results18) (by simp) ?_
  simp only [go_sem]
  refine awp_rq zs [1, 2, 3] ?_
  refine awp_reg zs [6, 7] fun K hK => ?_
  try simp only [go_sem, ↓reduceIte, Nat.reduceEqDiff, Nat.reduceLT, Nat.reduceSub, Nat.reduceAdd, Nat.reduceMul]
  repeat refine peel ?_
  refine callK_use Tryz.func20 rfl rfl rfl ((l_retain_Read p s clock 1099511627776 16 l hl _ _ (hL.mono (fun k hk => Heap.put_ne _ _ (by omega)) (by omega)))) ?_
  try simp only [go_sem, ↓reduceIte, Nat.reduceEqDiff, Nat.reduceLT, Nat.reduceSub, Nat.reduceAdd, Nat.reduceMul]
  repeat refine peel ?_
  refine hK _ _ _ ?_; clear hK K
  refine awp_ret ?_
  try simp only [go_sem, ↓reduceIte, Nat.reduceEqDiff, Nat.reduceLT, Nat.reduceSub, Nat.reduceAdd, Nat.reduceMul]
  refine ⟨_, rfl, ?_, .kl ⟨kls_ents _ _, trivial, trivial⟩⟩
  intro k hk
  have h1 : k ≠ n := by omega
  simp only [h1, if_false]
theorem l_retain_Top (p : Lp) (s : List Fml) (clock : Int) (l : List LEnt) (hl : l.length ≤ 100000000) (H : Heap) (n : Nat) (hL : LList H n p l) :
    Ret Tryz.prog 24 [schAV s, .int .i64 clock, p.av l.length] H n (.tup [.int .i64 (topE s clock (l.map (·.e))).1, .int .i64 (topE s clock (l.map (·.e))).2]) H n := by
  refine Ret.fin ?_
  refine acalls_of_awp Tryz.func24 rfl Tryz.ntmps24 (congrArg Array.toList Tryz.results24) (by simp) ?_
  simp only [go_sem]
  refine awp_rq zs [1, 2, 3] ?_
  refine awp_reg zs [1, 2, 3, 8] fun K hK => ?_
  try simp only [go_sem, ↓reduceIte, Nat.reduceEqDiff, Nat.reduceLT, Nat.reduceSub, Nat.reduceAdd, Nat.reduceMul]
  repeat refine peel ?_
  refine callK_use Tryz.func41 rfl rfl rfl ((Ret.wk (l_retain_prepare p s clock [] (by simp) 1 l (by omega) _ _ (hL.mono (fun k hk => Heap.put_ne _ _ (by omega)) (by omega))) ⟨.refl _, .refl _, Wk.nilsl 1, .refl _, .refl _, trivial⟩)) ?_
  try simp only [go_sem, ↓reduceIte, Nat.reduceEqDiff, Nat.reduceLT, Nat.reduceSub, Nat.reduceAdd, Nat.reduceMul]
  repeat refine peel ?_
  refine hK _ _ _ ?_; clear hK K
  refine awp_seq_k fun K1 hK1 => ?_
  refine awp_rq zs [1, 2, 3, 8, 19] ?_
  refine awp_cnd (fun hb => ?_) (fun hb => ?_)
  ·skip
   have hne : (prepE s clock [] 1 (l.map (·.e))).2 ≠ 0 := by simpa using hb
   have hq : topE s clock (l.map (·.e)) = (0, (prepE s clock [] 1 (l.map (·.e))).2) := by unfold topE; rw [if_pos hne]
   refine awp_rq zs [6, 7] ?_
   refine awp_ret ?_
   try simp only [go_sem, ↓reduceIte, Nat.reduceEqDiff, Nat.reduceLT, Nat.reduceSub, Nat.reduceAdd, Nat.reduceMul]
   rw [hq]
   refine ⟨_, rfl, ?_, .kl ⟨trivial, trivial, trivial⟩⟩
   · intro k hk
     have h1 : k ≠ n := by omega
     have h2 : k ≠ n + 1 := by omega
     have h3 : k ≠ n + 2 := by omega
     first | (simp only [h1, if_false]; done) | (rw [hL.rest k (by omega) h3 h2, Heap.put_ne _ _ h3, Heap.put_ne _ _ h2, Heap.put_ne _ _ h1])
  ·skip
   have hne : (prepE s clock [] 1 (l.map (·.e))).2 = 0 := by simpa using hb
   have hq : topE s clock (l.map (·.e)) = (topOf s clock (prepE s clock [] 1 (l.map (·.e))).1, 0) := by unfold topE; rw [if_neg (by simp [hne])]
   obtain ⟨hbz, _, _, hmem, hlen⟩ := prepE_zero hne
   rw [List.length_map] at hlen
   generalize (prepE s clock [] 1 (l.map (·.e))).1 = m at *
   refine awp_skip ?_
   try simp only [go_sem, ↓reduceIte, Nat.reduceEqDiff, Nat.reduceLT, Nat.reduceSub, Nat.reduceAdd, Nat.reduceMul]
   refine hK1 _ _ _ ?_
   first | clear hK1 K1 | skip
   refine awp_rq zs [1, 2, 3, 9] ?_
   refine awp_rq zs [2, 9, 10] ?_
   refine awp_wk_obj (n + 2) (els' := [walkAV (topTk (n + 2) (n + 1) (by omega)) (wlk0 s clock)]) (Heap.put_same _ _ _) ⟨Wk.agg ⟨.refl _, .refl _, .refl _, .refl _, Wk.agg ⟨Wk.nilsl 1, .refl _, Wk.nilsl 1, .refl _, .refl _, .refl _, Wk.nilsl 1, trivial⟩, .refl _, .refl _, .refl _, .refl _, Wk.agg ⟨Wk.agg ⟨Wk.nilsl 1, .refl _, Wk.nilsl 1, .refl _, .refl _, .refl _, Wk.nilsl 1, trivial⟩, .refl _, trivial⟩, trivial⟩, trivial⟩ ?_
   have hah : ∀ o, Ahead (topTk (n + 2) (n + 1) (by omega)) ((((H.put n o).put (n + 1) (some (.arr 0 1 [.agg [.int .i64 0]]))).put (n + 2) (some (.arr 0 25 [walkAV (topTk (n + 2) (n + 1) (by omega)) (wlk0 s clock)])))) (n + 3) (wlk0 s clock) (0 : Int) := fun o => ⟨by show n + 2 < n + 3; omega, fun k hk => by have : k = n + 1 := hk; omega, Heap.put_same _ _ _, (Heap.put_ne _ _ (by omega)).trans (Heap.put_same _ _ _)⟩
   refine awp_reg zs [9] fun K hK => ?_
   try simp only [go_sem, ↓reduceIte, Nat.reduceEqDiff, Nat.reduceLT, Nat.reduceSub, Nat.reduceAdd, Nat.reduceMul]
   repeat refine peel ?_
   refine callK_useK (args' := [.loc (n + 2) 0 0 0 [], entsAV m]) Tryz.func43 rfl rfl rfl (c_retain_walk_run (topTk (n + 2) (n + 1) (by omega)) (fun _ => True) (top_tkOK _ _ _) 400000000000 (fun _ _ => True) (top_inv _ _ _) s (ttl_of (boundsE_zero hbz).1) m (wlk0 s clock) (0 : Int) _ (n + 3) (hah _) (by omega) (by omega) trivial (wrk0 s clock) (fun e he => goodE_of (hmem e he).2)) ?_ ?_
   rotate_left
   · intro p H' n' h; cases h.1
   rintro r H3 n3 ⟨hr3, hL⟩
   cases hr3
   have hh1 := hL.tk
   rw [top_run] at hh1
   have hh1 : H3 (n + 1) = some (.arr 0 1 [.agg [.int .i64 (topOf s clock m)]]) := hh1
   try simp only [go_sem, ↓reduceIte, Nat.reduceEqDiff, Nat.reduceLT, Nat.reduceSub, Nat.reduceAdd, Nat.reduceMul]
   repeat refine peel ?_
   refine hK _ _ _ ?_; clear hK K
   refine awp_reg zs [6, 7] fun K hK => ?_
   try simp only [go_sem, ↓reduceIte, Nat.reduceEqDiff, Nat.reduceLT, Nat.reduceSub, Nat.reduceAdd, Nat.reduceMul, hh1]
   repeat refine peel ?_
   refine hK _ _ _ ?_; clear hK K
   refine awp_ret ?_
   try simp only [go_sem, ↓reduceIte, Nat.reduceEqDiff, Nat.reduceLT, Nat.reduceSub, Nat.reduceAdd, Nat.reduceMul]
   rw [hq]
   refine ⟨_, rfl, ?_, .kl ⟨trivial, trivial, trivial⟩⟩
   · intro k hk
     have h1 : k ≠ n := by omega
     have h2 : k ≠ n + 1 := by omega
     have h3 : k ≠ n + 2 := by omega
     first | (simp only [h1, if_false]; done) | (rw [hL.rest k (by omega) h3 h2, Heap.put_ne _ _ h3, Heap.put_ne _ _ h2, Heap.put_ne _ _ h1])

theorem l_retain_Sort (p : Lp) (l : List LEnt) (hl : l.length ≤ 100000000) (H : Heap) (n : Nat) (hL : LList H n p l) :
    Ret Tryz.prog 14 [p.av l.length] H n (.tup [entsAV (sortE (l.map (·.e))).1, .int .i64 (sortE (l.map (·.e))).2]) H n := by
  refine Ret.fin ?_
  refine acalls_of_awp Tryz.func14 rfl Tryz.ntmps14 (congrArg Array.toList Tryz.results14) (by simp) ?_
  simp only [go_sem]
  refine awp_rq zs [0] ?_
  refine awp_seq_k fun K1 hK1 => ?_
  refine awp_rq zs [0, 7, 8, 9] ?_
  refine awp_block ?_
  -- loop 0: head [0, 7, 8, 9]
  refine awp_loop (fun T' H' n' => ∃ (i : Nat), i ≤ l.length ∧ T' = tl [(0, .osl p.k p.ver 0 l.length), (7, .osl p.k p.ver 0 l.length), (8, .int .i64 l.length), (9, .int .i64 i)] ∧ n ≤ n' ∧ (∀ k, k < n → H' k = H k) ∧ badsC ((l.drop i).map (·.e)) = badsC (l.map (·.e))) (fun T' _ _ => l.length - iv (T' 9)) ?_ ?_
  ·skip
   exact ⟨0, Nat.zero_le _, rfl, by omega, fun k hk => rfl, rfl⟩
  intro T1 H1 n1
  rintro ⟨i, hi, rfl, hn, hrest, hd⟩
  refine awp_rq zs [0, 7, 8, 9, 10] ?_
  refine awp_seq_k fun K2 hK2 => ?_
  refine awp_cnd (fun hb => ?_) (fun hb => ?_)
  ·skip
   have hlt : i < l.length := by simpa using hb
   rw [drop_cons l i hlt, List.map_cons, badsC] at hd
   have hmem : l.getD i default ∈ l := by simp [List.getD, List.getElem?_eq_getElem hlt]
   have hnth : nth p.els i = lentAV (l.getD i default) := hL.nth hlt
   have hii : i < p.els.length := by have := hL.len; omega
   generalize l.getD i default = x at *
   have hpk : H1 p.k = some (.arr p.ver 7 p.els) := (hrest _ hL.lt).trans hL.at'
   have r2 : (p.k = n1) = False := by have := hL.lt; simp; omega
   have hrest1 : ∀ (o : Option AObj) (k : Nat), k < n → (H1.put n1 o) k = H k := fun o k hk => by rw [Heap.put_ne _ _ (by omega)]; exact hrest k hk
   refine awp_skip ?_
   try simp only [go_sem, ↓reduceIte, Nat.reduceEqDiff, Nat.reduceLT, Nat.reduceSub, Nat.reduceAdd, Nat.reduceMul]
   refine hK2 _ _ _ ?_
   first | clear hK2 K2 | skip
   refine awp_seq_k fun K3 hK3 => ?_
   refine awp_block ?_
   refine awp_reg zs [0, 5, 7, 8, 9] fun K hK => ?_
   try simp only [go_sem, ↓reduceIte, Nat.reduceEqDiff, Nat.reduceLT, Nat.reduceSub, Nat.reduceAdd, Nat.reduceMul, Int.toNat_natCast, hnth, hpk, r2]
   repeat (first | (refine And.intro ?_ ?_; · first | exact hii | exact ⟨rfl, hii, by simp, trivial, trivial, rfl⟩) | refine peel ?_)
   refine hK _ _ _ ?_; clear hK K
   refine awp_reg zs [0, 6, 7, 8, 9] fun K hK => ?_
   try simp only [go_sem, ↓reduceIte, Nat.reduceEqDiff, Nat.reduceLT, Nat.reduceSub, Nat.reduceAdd, Nat.reduceMul]
   repeat refine peel ?_
   refine callK_use Tryz.func35 rfl rfl rfl ((l_cell_Check x _ _ ((hL.ok x hmem).mono (hrest1 _) (by omega)))) ?_
   try simp only [go_sem, ↓reduceIte, Nat.reduceEqDiff, Nat.reduceLT, Nat.reduceSub, Nat.reduceAdd, Nat.reduceMul]
   repeat refine peel ?_
   refine hK _ _ _ ?_; clear hK K
   refine awp_rq zs [0, 6, 7, 8, 9, 16] ?_
   refine awp_cnd (fun hb => ?_) (fun hb => ?_)
   ·skip
    have hne : checkE x.e ≠ 0 := by simpa using hb
    rw [if_pos hne] at hd
    have hp : sortE (l.map (·.e)) = ([], checkE x.e) := by unfold sortE; rw [← hd, if_pos hne]
    refine awp_rq zs [2, 3] ?_
    refine awp_ret ?_
    try simp only [go_sem, ↓reduceIte, Nat.reduceEqDiff, Nat.reduceLT, Nat.reduceSub, Nat.reduceAdd, Nat.reduceMul]
    rw [hp]
    refine ⟨_, rfl, ?_, ?_⟩
    · intro k hk
      first | exact hrest k hk | (rw [if_neg (by omega)]; exact hrest k hk)
    · first | exact .tup (.cons .nilsl (.cons (.kl trivial) .nil)) | exact .kl ⟨kls_ents _ _, trivial, trivial⟩
   ·skip
    have hne : ¬ checkE x.e ≠ 0 := by simpa using hb
    rw [if_neg hne] at hd
    refine awp_skip ?_
    try simp only [go_sem, ↓reduceIte, Nat.reduceEqDiff, Nat.reduceLT, Nat.reduceSub, Nat.reduceAdd, Nat.reduceMul]
    refine hK3 _ _ _ ?_
    first | clear hK3 K3 | skip
    refine awp_reg1 zs [0, 7, 8, 9] fun K hK => ?_
    try simp only [go_sem, ↓reduceIte, Nat.reduceEqDiff, Nat.reduceLT, Nat.reduceSub, Nat.reduceAdd, Nat.reduceMul]
    repeat refine peel ?_
    refine hK _ _ _ ?_; clear hK K
    try simp only [go_sem, ↓reduceIte, Nat.reduceEqDiff, Nat.reduceLT, Nat.reduceSub, Nat.reduceAdd, Nat.reduceMul]
    refine ⟨⟨i + 1, by omega, by rw [w1 (by omega)], by omega, ?_, hd⟩, by rw [w1 (by omega)]; simp; omega⟩
    · intro k hk; have h1 : k ≠ n1 := by omega
      simp only [Heap.put, h1, if_false]; exact hrest k hk
  ·skip
   have hge : i = l.length := by simp at hb; omega
   rw [hge, List.drop_length, List.map_nil, badsC] at hd
   have hp : sortE (l.map (·.e)) = sortedE (l.map (·.e)) := by unfold sortE; rw [← hd]; simp
   refine awp_exit ?_
   try simp only [go_sem, ↓reduceIte, Nat.reduceEqDiff, Nat.reduceLT, Nat.reduceSub, Nat.reduceAdd, Nat.reduceMul]
   refine hK1 _ _ _ ?_
   first | clear hK1 K1 | skip
   refine awp_reg zs [2, 3] fun K hK => ?_
   try simp only [go_sem, ↓reduceIte, Nat.reduceEqDiff, Nat.reduceLT, Nat.reduceSub, Nat.reduceAdd, Nat.reduceMul]
   repeat refine peel ?_
   refine callK_use Tryz.func36 rfl rfl rfl ((l_retain_sorted p l (by omega) (fun x hx => fits_of (badsC_fits (l.map (·.e)) hd.symm x.e (List.mem_map.2 ⟨x, hx, rfl⟩))) _ _ (hL.mono hrest (by omega)))) ?_
   try simp only [go_sem, ↓reduceIte, Nat.reduceEqDiff, Nat.reduceLT, Nat.reduceSub, Nat.reduceAdd, Nat.reduceMul]
   repeat refine peel ?_
   refine hK _ _ _ ?_; clear hK K
   refine awp_ret ?_
   try simp only [go_sem, ↓reduceIte, Nat.reduceEqDiff, Nat.reduceLT, Nat.reduceSub, Nat.reduceAdd, Nat.reduceMul]
   rw [hp]
   refine ⟨_, rfl, ?_, ?_⟩
   · intro k hk
     first | exact hrest k hk | (rw [if_neg (by omega)]; exact hrest k hk)
   · first | exact .tup (.cons .nilsl (.cons (.kl trivial) .nil)) | exact .kl ⟨kls_ents _ _, trivial, trivial⟩
end Go.Proofs.YtijhkfhflpmajaaGreat


namespace Go.Proofs.YtijhkfhflpmajaaGreat
open Go Go.Sx Go.Rt Go.Proofs

theorem erg_buildSlice {P : Program} {z : TypeId → AV} {N : Nat} {ops : Array Oper} {dst : Option Tmp} {ty : TypeId} {pos : String} {after : Array Edge} {j : Nat} {bb : Bool} {os : List Oper} {T : Nat → AV} {H : Heap} {n : Nat} {Q : AEx → (Nat → AV) → Heap → Nat → Prop} (t : TypeId) (k : Nat) (p : Array (Nat × Operand)) :
    erun P z N ops (⟨dst, .buildSlice t k p, ty, pos, after, some (j, bb)⟩ :: os) T H n Q = (dOK N dst ∧ contB ((gtmp ops j).bind fun t => gval (T t) bb) fun g => (g = true → contW (opW P z H n T (.buildSlice t k p)) fun r H' n' => erun P z N ops os (tput T dst r) H' n' Q) ∧ (g = false → erun P z N ops os (tput T dst (.opt false .junk)) H n Q)) := rfl
attribute [go_sem] erg_buildSlice

def marksE : List UInt8 := [91, 92, 93, 94, 95]

theorem c_ref3_Copied_own (b : List UInt8) (hb : b.length ≤ 140737488355328) (H : Heap) (n : Nat) : Ret Tryz.prog 61 [bys b] H n (.osl n 1 0 b.length) (H.put n (some (.arr 1 1 (b.map byteAV)))) (n + 1) := by
  refine acalls_of_awp Tryz.func61 rfl Tryz.ntmps61 (congrArg Array.toList Tryz.results61) (by simp) ?_
  simp only [go_sem]
  refine awp_rq zs [0] ?_
  refine awp_rq zs [0, 3] ?_
  refine awp_adopt_tmp 3 1 rfl ?_
  refine awp_reg zs [2] fun K hK => ?_
  try simp only [go_sem, ↓reduceIte, Nat.reduceEqDiff, Nat.reduceLT, Nat.reduceSub, Nat.reduceAdd, Nat.reduceMul]
  repeat (first | (refine And.intro ?_ ?_; · first | (simp; omega) | exact ⟨rfl, by decide, by simp⟩) | refine peel ?_)
  refine hK _ _ _ ?_; clear hK K
  refine awp_ret ?_
  try simp only [go_sem, ↓reduceIte, Nat.reduceEqDiff, Nat.reduceLT, Nat.reduceSub, Nat.reduceAdd, Nat.reduceMul]
  rw [List.length_map]

theorem c_law_wide (b : List UInt8) (hb : b.length ≤ 70000000000000) (H : Heap) (n : Nat) : Ret Tryz.prog 33 [bys b] H n (.osl n 2 0 (b.length + 5)) (H.put n (some (.arr 2 1 ((b ++ marksE).map byteAV)))) (n + 1) := by
  refine acalls_of_awp Tryz.func33 rfl Tryz.ntmps33 (congrArg Array.toList Tryz.results33) (by simp) ?_
  simp only [go_sem]
  refine awp_rq zs [0] ?_
  refine awp_reg zs [3] fun K hK => ?_
  try simp only [go_sem, ↓reduceIte, Nat.reduceEqDiff, Nat.reduceLT, Nat.reduceSub, Nat.reduceAdd, Nat.reduceMul]
  repeat refine peel ?_
  refine callK_use Tryz.func61 rfl rfl rfl ((c_ref3_Copied_own b (by omega) _ _)) ?_
  try simp only [go_sem, ↓reduceIte, Nat.reduceEqDiff, Nat.reduceLT, Nat.reduceSub, Nat.reduceAdd, Nat.reduceMul]
  repeat refine peel ?_
  refine hK _ _ _ ?_; clear hK K
  refine awp_reg zs [2] fun K hK => ?_
  try simp only [go_sem, ↓reduceIte, Nat.reduceEqDiff, Nat.reduceLT, Nat.reduceSub, Nat.reduceAdd, Nat.reduceMul]
  repeat (first | (refine And.intro ?_ ?_; · first | exact ⟨by simp, .inr trivial, by omega, by omega⟩) | refine peel ?_)
  refine hK _ _ _ ?_; clear hK K
  refine awp_ret ?_
  try simp only [go_sem, ↓reduceIte, Nat.reduceEqDiff, Nat.reduceLT, Nat.reduceSub, Nat.reduceAdd, Nat.reduceMul]
  rw [List.take_of_length_le (by simp), List.map_append]; rfl

def keptB (w b : List UInt8) : Bool := bif (bif ((w.length : Int) == ((b.length + 5 : Nat) : Int)) then (w.take b.length == b) else false) then w.drop b.length == marksE else false
theorem keptB_true (b : List UInt8) : keptB (b ++ marksE) b = true := by
  unfold keptB
  simp [marksE]

theorem c_law_kept (w b : List UInt8) (hw : w.length ≤ 100000000000000) (hb : b.length ≤ 100000000000000) (H : Heap) (n : Nat) : Ret Tryz.prog 53 [bys w, bys b] H n (.bool (keptB w b)) H n := by
  have hs1 : List.take b.length (List.map byteAV w) = List.map byteAV (List.take b.length w) := List.map_take.symm
  have hs2 : List.drop b.length (List.map byteAV w) = List.map byteAV (List.drop b.length w) := List.map_drop.symm
  have hs3 : List.drop b.length (List.take w.length (List.map byteAV w)) = List.map byteAV (List.drop b.length w) := by rw [List.take_of_length_le (by simp), List.map_drop]
  have hw1 : IntKind.i64.wrap ((b.length : Int) + 5) = ((b.length + 5 : Nat) : Int) := w64 (by omega) (by omega)
  refine acalls_of_awp Tryz.func53 rfl Tryz.ntmps53 (congrArg Array.toList Tryz.results53) (by simp) ?_
  simp only [go_sem]
  refine awp_rq zs [0, 1] ?_
  refine awp_rq zs [0, 1, 5] ?_
  cases hG : (bif ((w.length : Int) == ((b.length + 5 : Nat) : Int)) then (List.take b.length w == b) else false)
  ·skip
   skip
   refine awp_reg zs [4] fun K hK => ?_
   try simp only [go_sem, ↓reduceIte, Nat.reduceEqDiff, Nat.reduceLT, Nat.reduceSub, Nat.reduceAdd, Nat.reduceMul, List.length_map, Option.getD_some, Option.getD_none, Int.toNat_natCast, Int.toNat_zero, List.drop_zero, hw1, hs1, hs2, hG, hs3, true_implies, forall_const, reduceCtorEq, false_implies, show (true == true) = true from rfl, show (false == true) = false from rfl]
   repeat (first | (refine And.intro ?_ ?_; · first | (intro hh; simp at hh; omega) | (have h9 : w.length = b.length + 5 := (by simp at hG; omega); omega) | (intro hh; exact ⟨by omega, by omega, by simp at hh; omega, fun m hm => by cases hm⟩) | exact ⟨rfl, by decide, by simp [AV.sz, AV.memOK]⟩ | (have h9 : w.length = b.length + 5 := (by simp at hG; omega); exact ⟨by omega, by omega, by omega, fun m hm => by cases hm⟩)) | refine peel ?_)
   refine callG_use Tryz.func60 rfl rfl rfl (fun _ => (c_ref3_Alike (w.take b.length) b _ _)) ?_
   try simp only [go_sem, ↓reduceIte, Nat.reduceEqDiff, Nat.reduceLT, Nat.reduceSub, Nat.reduceAdd, Nat.reduceMul, List.length_map, Option.getD_some, Option.getD_none, Int.toNat_natCast, Int.toNat_zero, List.drop_zero, hw1, hs1, hs2, hG, hs3, true_implies, forall_const, reduceCtorEq, false_implies, show (true == true) = true from rfl, show (false == true) = false from rfl]
   repeat (first | (refine And.intro ?_ ?_; · first | (intro hh; simp at hh; omega) | (have h9 : w.length = b.length + 5 := (by simp at hG; omega); omega) | (intro hh; exact ⟨by omega, by omega, by simp at hh; omega, fun m hm => by cases hm⟩) | exact ⟨rfl, by decide, by simp [AV.sz, AV.memOK]⟩ | (have h9 : w.length = b.length + 5 := (by simp at hG; omega); exact ⟨by omega, by omega, by omega, fun m hm => by cases hm⟩)) | refine peel ?_)
   first | refine callG_use Tryz.func60 rfl rfl rfl (fun _ => (c_ref3_Alike (w.drop b.length) marksE _ _)) ?_ | (refine ⟨fun h => absurd h (by decide), fun _ => ⟨.bool true, ?_⟩⟩)
   try simp only [go_sem, ↓reduceIte, Nat.reduceEqDiff, Nat.reduceLT, Nat.reduceSub, Nat.reduceAdd, Nat.reduceMul, List.length_map, Option.getD_some, Option.getD_none, Int.toNat_natCast, Int.toNat_zero, List.drop_zero, hw1, hs1, hs2, hG, hs3, true_implies, forall_const, reduceCtorEq, false_implies, show (true == true) = true from rfl, show (false == true) = false from rfl]
   repeat (first | (refine And.intro ?_ ?_; · first | (intro hh; simp at hh; omega) | (have h9 : w.length = b.length + 5 := (by simp at hG; omega); omega) | (intro hh; exact ⟨by omega, by omega, by simp at hh; omega, fun m hm => by cases hm⟩) | exact ⟨rfl, by decide, by simp [AV.sz, AV.memOK]⟩ | (have h9 : w.length = b.length + 5 := (by simp at hG; omega); exact ⟨by omega, by omega, by omega, fun m hm => by cases hm⟩)) | refine peel ?_)
   refine hK _ _ _ ?_; clear hK K
   refine awp_ret ?_
   try simp only [go_sem, ↓reduceIte, Nat.reduceEqDiff, Nat.reduceLT, Nat.reduceSub, Nat.reduceAdd, Nat.reduceMul]
   unfold keptB; rw [hG]; rfl
  ·skip
   skip
   refine awp_reg zs [4] fun K hK => ?_
   try simp only [go_sem, ↓reduceIte, Nat.reduceEqDiff, Nat.reduceLT, Nat.reduceSub, Nat.reduceAdd, Nat.reduceMul, List.length_map, Option.getD_some, Option.getD_none, Int.toNat_natCast, Int.toNat_zero, List.drop_zero, hw1, hs1, hs2, hG, hs3, true_implies, forall_const, reduceCtorEq, false_implies, show (true == true) = true from rfl, show (false == true) = false from rfl]
   repeat (first | (refine And.intro ?_ ?_; · first | (intro hh; simp at hh; omega) | (have h9 : w.length = b.length + 5 := (by simp at hG; omega); omega) | (intro hh; exact ⟨by omega, by omega, by simp at hh; omega, fun m hm => by cases hm⟩) | exact ⟨rfl, by decide, by simp [AV.sz, AV.memOK]⟩ | (have h9 : w.length = b.length + 5 := (by simp at hG; omega); exact ⟨by omega, by omega, by omega, fun m hm => by cases hm⟩)) | refine peel ?_)
   refine callG_use Tryz.func60 rfl rfl rfl (fun _ => (c_ref3_Alike (w.take b.length) b _ _)) ?_
   try simp only [go_sem, ↓reduceIte, Nat.reduceEqDiff, Nat.reduceLT, Nat.reduceSub, Nat.reduceAdd, Nat.reduceMul, List.length_map, Option.getD_some, Option.getD_none, Int.toNat_natCast, Int.toNat_zero, List.drop_zero, hw1, hs1, hs2, hG, hs3, true_implies, forall_const, reduceCtorEq, false_implies, show (true == true) = true from rfl, show (false == true) = false from rfl]
   repeat (first | (refine And.intro ?_ ?_; · first | (intro hh; simp at hh; omega) | (have h9 : w.length = b.length + 5 := (by simp at hG; omega); omega) | (intro hh; exact ⟨by omega, by omega, by simp at hh; omega, fun m hm => by cases hm⟩) | exact ⟨rfl, by decide, by simp [AV.sz, AV.memOK]⟩ | (have h9 : w.length = b.length + 5 := (by simp at hG; omega); exact ⟨by omega, by omega, by omega, fun m hm => by cases hm⟩)) | refine peel ?_)
   first | refine callG_use Tryz.func60 rfl rfl rfl (fun _ => (c_ref3_Alike (w.drop b.length) marksE _ _)) ?_ | (refine ⟨fun h => absurd h (by decide), fun _ => ⟨.bool true, ?_⟩⟩)
   try simp only [go_sem, ↓reduceIte, Nat.reduceEqDiff, Nat.reduceLT, Nat.reduceSub, Nat.reduceAdd, Nat.reduceMul, List.length_map, Option.getD_some, Option.getD_none, Int.toNat_natCast, Int.toNat_zero, List.drop_zero, hw1, hs1, hs2, hG, hs3, true_implies, forall_const, reduceCtorEq, false_implies, show (true == true) = true from rfl, show (false == true) = false from rfl]
   repeat (first | (refine And.intro ?_ ?_; · first | (intro hh; simp at hh; omega) | (have h9 : w.length = b.length + 5 := (by simp at hG; omega); omega) | (intro hh; exact ⟨by omega, by omega, by simp at hh; omega, fun m hm => by cases hm⟩) | exact ⟨rfl, by decide, by simp [AV.sz, AV.memOK]⟩ | (have h9 : w.length = b.length + 5 := (by simp at hG; omega); exact ⟨by omega, by omega, by omega, fun m hm => by cases hm⟩)) | refine peel ?_)
   refine hK _ _ _ ?_; clear hK K
   refine awp_ret ?_
   try simp only [go_sem, ↓reduceIte, Nat.reduceEqDiff, Nat.reduceLT, Nat.reduceSub, Nat.reduceAdd, Nat.reduceMul]
   unfold keptB; rw [hG]; rfl
end Go.Proofs.YtijhkfhflpmajaaGreat

