/- Own layer: the walks through the small functions of the laws. Of the program; no condition. -/
import Derived.Test.YtijhkfhflpmajaaKF
import Derived.Test.YtijhkfhflpmajaaKC
set_option linter.unusedSimpArgs false
set_option linter.unusedVariables false
namespace Go.Proofs.Ytijhkfhflpmajaa
open Go Go.Sx Go.Rt Go.Proofs

theorem c_law_num (e : Int) (H : Heap) (n : Nat) : Ret Try.prog 16 [.int .i64 e] H n (.int .i64 e) H n := by
  refine acalls_of_awp Try.func16 rfl Try.ntmps16 (congrArg Array.toList Try.results16) (by simp) ?_
  simp only [go_sem]
  refine awp_reg zs [0] fun K hK => ?_  -- region 0
  try simp only [go_sem, List.map_cons, List.map_nil, ↓reduceIte, Nat.reduceEqDiff, Nat.reduceLT, Nat.reduceSub, Nat.reduceAdd, Nat.reduceMul, implies_true, true_and, and_true, cond_true, cond_false]
  iterate 14 (first | (refine And.intro ?_ ?_; · first | omega | assumption | (simp; done) | (intros; simp_all; done) | decide) | skip)
  refine hK _ _ _ ?_
  clear hK K
  refine awp_reg zs [2] fun K hK => ?_  -- region 1
  try simp only [go_sem, List.map_cons, List.map_nil, ↓reduceIte, Nat.reduceEqDiff, Nat.reduceLT, Nat.reduceSub, Nat.reduceAdd, Nat.reduceMul, implies_true, true_and, and_true, cond_true, cond_false]
  iterate 14 (first | (refine And.intro ?_ ?_; · first | omega | assumption | (simp; done) | (intros; simp_all; done) | decide) | skip)
  refine hK _ _ _ ?_
  clear hK K
  refine awp_ret ?_
  try simp only [go_sem, List.map_cons, List.map_nil, ↓reduceIte, Nat.reduceEqDiff, Nat.reduceLT, Nat.reduceSub, Nat.reduceAdd, Nat.reduceMul, implies_true, true_and, and_true, cond_true, cond_false]

theorem c_ref3_Alike (a b : List UInt8) (H : Heap) (n : Nat) : Ret Try.prog 20 [bys a, bys b] H n (.bool (a == b)) H n := by
  refine acalls_of_awp Try.func20 rfl Try.ntmps20 (congrArg Array.toList Try.results20) (by simp) ?_
  simp only [go_sem]
  refine awp_reg zs [0, 1] fun K hK => ?_  -- region 0
  try simp only [go_sem, List.map_cons, List.map_nil, ↓reduceIte, Nat.reduceEqDiff, Nat.reduceLT, Nat.reduceSub, Nat.reduceAdd, Nat.reduceMul, implies_true, true_and, and_true, cond_true, cond_false]
  iterate 14 (first | (refine And.intro ?_ ?_; · first | omega | assumption | (simp; done) | (intros; simp_all; done) | decide) | skip)
  refine hK _ _ _ ?_
  clear hK K
  refine awp_reg zs [4] fun K hK => ?_  -- region 1
  try simp only [go_sem, List.map_cons, List.map_nil, ↓reduceIte, Nat.reduceEqDiff, Nat.reduceLT, Nat.reduceSub, Nat.reduceAdd, Nat.reduceMul, implies_true, true_and, and_true, cond_true, cond_false, map_byteOf]
  iterate 14 (first | (refine And.intro ?_ ?_; · first | exact bys_isByte _ | omega | assumption | (simp; done) | (intros; simp_all; done) | decide) | skip)
  refine hK _ _ _ ?_
  clear hK K
  refine awp_ret ?_
  try simp only [go_sem, List.map_cons, List.map_nil, ↓reduceIte, Nat.reduceEqDiff, Nat.reduceLT, Nat.reduceSub, Nat.reduceAdd, Nat.reduceMul, implies_true, true_and, and_true, cond_true, cond_false]

theorem c_ref3_Same (a b : Ent) (H : Heap) (n : Nat) : Ret Try.prog 41 [entAV a, entAV b] H n (.bool (sameE a b)) H n := by
  refine Ret.fin ?_
  refine acalls_of_awp Try.func41 rfl Try.ntmps41 (congrArg Array.toList Try.results41) (by simp) ?_
  simp only [go_sem]
  refine awp_reg zs [2, 3] fun K hK => ?_  -- region 0
  try simp only [go_sem, List.map_cons, List.map_nil, ↓reduceIte, Nat.reduceEqDiff, Nat.reduceLT, Nat.reduceSub, Nat.reduceAdd, Nat.reduceMul, implies_true, true_and, and_true, cond_true, cond_false]
  iterate 14 (first | (refine And.intro ?_ ?_; · first | omega | assumption | (simp; done) | (intros; simp_all; done) | decide) | skip)
  refine hK _ _ _ ?_
  clear hK K
  refine awp_seq_k fun K1 hK1 => ?_
  refine awp_reg zs [2, 3, 30] fun K hK => ?_  -- region 1
  try simp only [go_sem, List.map_cons, List.map_nil, ↓reduceIte, Nat.reduceEqDiff, Nat.reduceLT, Nat.reduceSub, Nat.reduceAdd, Nat.reduceMul, implies_true, true_and, and_true, cond_true, cond_false]
  iterate 14 (first | (refine And.intro ?_ ?_; · first | omega | assumption | (simp; done) | (intros; simp_all; done) | decide) | skip)
  refine hK _ _ _ ?_
  clear hK K
  refine awp_cond (b := _) (by simp only [go_sem, List.map_cons, List.map_nil, ↓reduceIte, Nat.reduceEqDiff, Nat.reduceLT, Nat.reduceSub, Nat.reduceAdd, Nat.reduceMul, implies_true, true_and, and_true, cond_true, cond_false]; rfl) (fun hb => ?_) (fun hb => ?_)  -- t30
  · skip
    refine awp_reg zs [4] fun K hK => ?_  -- region 2
    try simp only [go_sem, List.map_cons, List.map_nil, ↓reduceIte, Nat.reduceEqDiff, Nat.reduceLT, Nat.reduceSub, Nat.reduceAdd, Nat.reduceMul, implies_true, true_and, and_true, cond_true, cond_false]
    iterate 14 (first | (refine And.intro ?_ ?_; · first | omega | assumption | (simp; done) | (intros; simp_all; done) | decide) | skip)
    refine hK _ _ _ ?_
    clear hK K
    refine awp_ret ?_
    try simp only [go_sem, List.map_cons, List.map_nil, ↓reduceIte, Nat.reduceEqDiff, Nat.reduceLT, Nat.reduceSub, Nat.reduceAdd, Nat.reduceMul, implies_true, true_and, and_true, cond_true, cond_false]
    refine ⟨_, rfl, ?_, Frz.eq ?_ trivial⟩
    · intro k hk; have h0 : k ≠ n := by omega
      have h1 : ∀ j, k ≠ n + j := fun j => by omega
      simp [Heap.put, h0, h1]
    rw [sameE_eq]; simp only [bne] at hb; congr 1
    generalize (a.fam == b.fam) = p1 at *
    generalize (a.ts == b.ts) = p2 at *
    generalize (a.seq == b.seq) = p3 at *
    generalize (a.kind == b.kind) = p4 at *
    generalize (a.row == b.row) = p5 at *
    generalize (a.qual == b.qual) = p6 at *
    generalize (a.value == b.value) = p7 at *
    revert hb; revert p1 p2 p3 p4 p5 p6 p7; decide
  · skip
    refine awp_skip ?_
    try simp only [go_sem, List.map_cons, List.map_nil, ↓reduceIte, Nat.reduceEqDiff, Nat.reduceLT, Nat.reduceSub, Nat.reduceAdd, Nat.reduceMul, implies_true, true_and, and_true, cond_true, cond_false]
    refine hK1 _ _ _ ?_
    first | clear hK1 K1 | skip
    refine awp_reg zs [4] fun K hK => ?_  -- region 3
    try simp only [go_sem, List.map_cons, List.map_nil, ↓reduceIte, Nat.reduceEqDiff, Nat.reduceLT, Nat.reduceSub, Nat.reduceAdd, Nat.reduceMul, implies_true, true_and, and_true, cond_true, cond_false]
    iterate 14 (first | (refine And.intro ?_ ?_; · first | omega | assumption | (simp; done) | (intros; simp_all; done) | decide) | skip)
    refine callK_use Try.func20 rfl rfl rfl ((c_ref3_Alike a.row b.row _ _)) ?_
    try simp only [go_sem, List.map_cons, List.map_nil, ↓reduceIte, Nat.reduceEqDiff, Nat.reduceLT, Nat.reduceSub, Nat.reduceAdd, Nat.reduceMul, implies_true, true_and, and_true, cond_true, cond_false]
    iterate 14 (first | (refine And.intro ?_ ?_; · first | omega | assumption | (simp; done) | (intros; simp_all; done) | decide) | skip)
    refine callG_use Try.func20 rfl rfl rfl (fun _ => (c_ref3_Alike a.qual b.qual _ _)) ?_
    try simp only [go_sem, List.map_cons, List.map_nil, ↓reduceIte, Nat.reduceEqDiff, Nat.reduceLT, Nat.reduceSub, Nat.reduceAdd, Nat.reduceMul, implies_true, true_and, and_true, cond_true, cond_false]
    iterate 14 (first | (refine And.intro ?_ ?_; · first | omega | assumption | (simp; done) | (intros; simp_all; done) | decide) | skip)
    refine callG_use Try.func20 rfl rfl rfl (fun _ => (c_ref3_Alike a.value b.value _ _)) ?_
    try simp only [go_sem, List.map_cons, List.map_nil, ↓reduceIte, Nat.reduceEqDiff, Nat.reduceLT, Nat.reduceSub, Nat.reduceAdd, Nat.reduceMul, implies_true, true_and, and_true, cond_true, cond_false]
    iterate 14 (first | (refine And.intro ?_ ?_; · first | omega | assumption | (simp; done) | (intros; simp_all; done) | decide) | skip)
    refine hK _ _ _ ?_
    clear hK K
    refine awp_ret ?_
    try simp only [go_sem, List.map_cons, List.map_nil, ↓reduceIte, Nat.reduceEqDiff, Nat.reduceLT, Nat.reduceSub, Nat.reduceAdd, Nat.reduceMul, implies_true, true_and, and_true, cond_true, cond_false]
    refine ⟨_, rfl, ?_, Frz.eq ?_ trivial⟩
    · intro k hk; have h0 : k ≠ n := by omega
      have h1 : ∀ j, k ≠ n + j := fun j => by omega
      simp [Heap.put, h0, h1]
    rw [sameE_eq]; simp only [bne] at hb; congr 1
    generalize (a.fam == b.fam) = p1 at *
    generalize (a.ts == b.ts) = p2 at *
    generalize (a.seq == b.seq) = p3 at *
    generalize (a.kind == b.kind) = p4 at *
    generalize (a.row == b.row) = p5 at *
    generalize (a.qual == b.qual) = p6 at *
    generalize (a.value == b.value) = p7 at *
    revert hb; revert p1 p2 p3 p4 p5 p6 p7; decide

def sameAllE (a b : List Ent) : Bool := decide (a = b)
theorem c_ref3_SameAll (a b : List Ent) (hl : a.length < 4611686018427387904) (H : Heap) (n : Nat) : Ret Try.prog 18 [entsAV a, entsAV b] H n (.bool (decide (a = b))) H n := by
  refine acalls_of_awp Try.func18 rfl Try.ntmps18 (congrArg Array.toList Try.results18) (by simp) ?_
  simp only [go_sem]
  refine awp_reg zs [0, 1] fun K hK => ?_  -- region 0
  try simp only [go_sem, List.map_cons, List.map_nil, ↓reduceIte, Nat.reduceEqDiff, Nat.reduceLT, Nat.reduceSub, Nat.reduceAdd, Nat.reduceMul, implies_true, true_and, and_true, cond_true, cond_false]
  iterate 14 (first | (refine And.intro ?_ ?_; · first | omega | assumption | (simp; done) | (intros; simp_all; done) | decide) | skip)
  refine hK _ _ _ ?_
  clear hK K
  refine awp_seq_k fun K1 hK1 => ?_
  refine awp_reg zs [0, 1, 11] fun K hK => ?_  -- region 1
  try simp only [go_sem, List.map_cons, List.map_nil, ↓reduceIte, Nat.reduceEqDiff, Nat.reduceLT, Nat.reduceSub, Nat.reduceAdd, Nat.reduceMul, implies_true, true_and, and_true, cond_true, cond_false]
  iterate 14 (first | (refine And.intro ?_ ?_; · first | omega | assumption | (simp; done) | (intros; simp_all; done) | decide) | skip)
  refine hK _ _ _ ?_
  clear hK K
  refine awp_cond (b := _) (by simp only [go_sem, List.map_cons, List.map_nil, ↓reduceIte, Nat.reduceEqDiff, Nat.reduceLT, Nat.reduceSub, Nat.reduceAdd, Nat.reduceMul, implies_true, true_and, and_true, cond_true, cond_false]; rfl) (fun hb => ?_) (fun hb => ?_)  -- t11
  · skip
    have hne : a.length ≠ b.length := by simp at hb; exact fun h => hb (by rw [h])
    refine awp_reg zs [4] fun K hK => ?_  -- region 2
    try simp only [go_sem, List.map_cons, List.map_nil, ↓reduceIte, Nat.reduceEqDiff, Nat.reduceLT, Nat.reduceSub, Nat.reduceAdd, Nat.reduceMul, implies_true, true_and, and_true, cond_true, cond_false]
    iterate 14 (first | (refine And.intro ?_ ?_; · first | omega | assumption | (simp; done) | (intros; simp_all; done) | decide) | skip)
    refine hK _ _ _ ?_
    clear hK K
    refine awp_ret ?_
    try simp only [go_sem, List.map_cons, List.map_nil, ↓reduceIte, Nat.reduceEqDiff, Nat.reduceLT, Nat.reduceSub, Nat.reduceAdd, Nat.reduceMul, implies_true, true_and, and_true, cond_true, cond_false]
    first
    | (have h9 : ¬ a = b := fun h => hne (by rw [h])
       simp [h9])
    | (rw [← hd]; simp [hxy])
    | (rw [← hd, hge, hel]; simp [← hel])
  · skip
    have hel : a.length = b.length := by simp at hb; exact Int.ofNat_inj.1 hb
    refine awp_skip ?_
    try simp only [go_sem, List.map_cons, List.map_nil, ↓reduceIte, Nat.reduceEqDiff, Nat.reduceLT, Nat.reduceSub, Nat.reduceAdd, Nat.reduceMul, implies_true, true_and, and_true, cond_true, cond_false]
    refine hK1 _ _ _ ?_
    first | clear hK1 K1 | skip
    refine awp_seq_k fun K2 hK2 => ?_
    refine awp_reg zs [0, 1, 5] fun K hK => ?_  -- region 3
    try simp only [go_sem, List.map_cons, List.map_nil, ↓reduceIte, Nat.reduceEqDiff, Nat.reduceLT, Nat.reduceSub, Nat.reduceAdd, Nat.reduceMul, implies_true, true_and, and_true, cond_true, cond_false]
    iterate 14 (first | (refine And.intro ?_ ?_; · first | omega | assumption | (simp; done) | (intros; simp_all; done) | decide) | skip)
    refine hK _ _ _ ?_
    clear hK K
    refine awp_block ?_
    -- loop 0: head [0, 1, 5]
    refine awp_loop (fun T' H' n' => ∃ i : Nat, i ≤ a.length ∧ T' = tl [(0, .sl 7 (a.map entAV)), (1, .sl 7 (b.map entAV)), (5, .int .i64 i)] ∧ H' = H ∧ n' = n ∧ (decide (a.drop i = b.drop i)) = decide (a = b)) (fun T' _ _ => a.length - iv (T' 5)) ?_ ?_
    · skip
      exact ⟨0, Nat.zero_le _, rfl, rfl, rfl, rfl⟩
    intro T1 H1 n1
    rintro ⟨i, hi, rfl, rfl, rfl, hd⟩
    refine awp_seq_k fun K3 hK3 => ?_
    refine awp_reg zs [0, 1, 5, 15] fun K hK => ?_  -- region 4
    try simp only [go_sem, List.map_cons, List.map_nil, ↓reduceIte, Nat.reduceEqDiff, Nat.reduceLT, Nat.reduceSub, Nat.reduceAdd, Nat.reduceMul, implies_true, true_and, and_true, cond_true, cond_false]
    iterate 14 (first | (refine And.intro ?_ ?_; · first | omega | assumption | (simp; done) | (intros; simp_all; done) | decide) | skip)
    refine hK _ _ _ ?_
    clear hK K
    refine awp_cond (b := _) (by simp only [go_sem, List.map_cons, List.map_nil, ↓reduceIte, Nat.reduceEqDiff, Nat.reduceLT, Nat.reduceSub, Nat.reduceAdd, Nat.reduceMul, implies_true, true_and, and_true, cond_true, cond_false]; rfl) (fun hb => ?_) (fun hb => ?_)  -- t15
    · skip
      have hlt : i < a.length := by simpa using hb
      have hlb : i < b.length := by omega
      rw [drop_cons a i hlt, drop_cons b i hlb] at hd
      have hn1 : nth (a.map entAV) i = entAV (a.getD i default) := nth_map entAV a i hlt
      have hn2 : nth (b.map entAV) i = entAV (b.getD i default) := nth_map entAV b i hlb
      generalize a.getD i default = x at *
      generalize b.getD i default = y at *
      refine awp_skip ?_
      try simp only [go_sem, List.map_cons, List.map_nil, ↓reduceIte, Nat.reduceEqDiff, Nat.reduceLT, Nat.reduceSub, Nat.reduceAdd, Nat.reduceMul, implies_true, true_and, and_true, cond_true, cond_false]
      refine hK3 _ _ _ ?_
      first | clear hK3 K3 | skip
      refine awp_seq_k fun K4 hK4 => ?_
      refine awp_block ?_
      refine awp_drw rfl zs [0, 1, 5, 6] [.m, .m, .q, .q, .m, .m, .q, .q, .c, .q] (by kernel_rfl) (fun _ _ _ _ _ h => h) fun K hK => ?_  -- region 6
      try simp only [go_sem, List.map_cons, List.map_nil, ↓reduceIte, Nat.reduceEqDiff, Nat.reduceLT, Nat.reduceSub, Nat.reduceAdd, Nat.reduceMul, implies_true, true_and, and_true, cond_true, cond_false, Int.toNat_natCast, hn1, hn2]
      iterate 14 (first | (refine And.intro ?_ ?_; · first | omega | assumption | (simp; done) | (intros; simp_all; done) | decide) | skip)
      refine callQG_use Try.func41 rfl rfl rfl (fun _ n => (c_ref3_Same x y _ _)) ?_
      try simp only [go_sem, List.map_cons, List.map_nil, ↓reduceIte, Nat.reduceEqDiff, Nat.reduceLT, Nat.reduceSub, Nat.reduceAdd, Nat.reduceMul, implies_true, true_and, and_true, cond_true, cond_false, Int.toNat_natCast, hn1, hn2]
      iterate 14 (first | (refine And.intro ?_ ?_; · first | omega | assumption | (simp; done) | (intros; simp_all; done) | decide) | skip)
      refine hK _ _ _ ?_
      clear hK K
      refine awp_reg zs [0, 1, 5, 28] fun K hK => ?_  -- region 7
      try simp only [go_sem, List.map_cons, List.map_nil, ↓reduceIte, Nat.reduceEqDiff, Nat.reduceLT, Nat.reduceSub, Nat.reduceAdd, Nat.reduceMul, implies_true, true_and, and_true, cond_true, cond_false]
      iterate 14 (first | (refine And.intro ?_ ?_; · first | omega | assumption | (simp; done) | (intros; simp_all; done) | decide) | skip)
      refine hK _ _ _ ?_
      clear hK K
      refine awp_cond (b := _) (by simp only [go_sem, List.map_cons, List.map_nil, ↓reduceIte, Nat.reduceEqDiff, Nat.reduceLT, Nat.reduceSub, Nat.reduceAdd, Nat.reduceMul, implies_true, true_and, and_true, cond_true, cond_false]; rfl) (fun hb => ?_) (fun hb => ?_)  -- t28
      · skip
        have hxy : x ≠ y := by simpa [sameE] using hb
        refine awp_reg zs [4] fun K hK => ?_  -- region 8
        try simp only [go_sem, List.map_cons, List.map_nil, ↓reduceIte, Nat.reduceEqDiff, Nat.reduceLT, Nat.reduceSub, Nat.reduceAdd, Nat.reduceMul, implies_true, true_and, and_true, cond_true, cond_false]
        iterate 14 (first | (refine And.intro ?_ ?_; · first | omega | assumption | (simp; done) | (intros; simp_all; done) | decide) | skip)
        refine hK _ _ _ ?_
        clear hK K
        refine awp_ret ?_
        try simp only [go_sem, List.map_cons, List.map_nil, ↓reduceIte, Nat.reduceEqDiff, Nat.reduceLT, Nat.reduceSub, Nat.reduceAdd, Nat.reduceMul, implies_true, true_and, and_true, cond_true, cond_false]
        first
        | (have h9 : ¬ a = b := fun h => hne (by rw [h])
           simp [h9])
        | (rw [← hd]; simp [hxy])
        | (rw [← hd, hge, hel]; simp [← hel])
      · skip
        have hxy : x = y := by simpa [sameE] using hb
        refine awp_skip ?_
        try simp only [go_sem, List.map_cons, List.map_nil, ↓reduceIte, Nat.reduceEqDiff, Nat.reduceLT, Nat.reduceSub, Nat.reduceAdd, Nat.reduceMul, implies_true, true_and, and_true, cond_true, cond_false]
        refine hK4 _ _ _ ?_
        first | clear hK4 K4 | skip
        refine awp_reg1 zs [0, 1, 5] fun K hK => ?_  -- region 5
        try simp only [go_sem, List.map_cons, List.map_nil, ↓reduceIte, Nat.reduceEqDiff, Nat.reduceLT, Nat.reduceSub, Nat.reduceAdd, Nat.reduceMul, implies_true, true_and, and_true, cond_true, cond_false]
        iterate 14 (first | (refine And.intro ?_ ?_; · first | omega | assumption | (simp; done) | (intros; simp_all; done) | decide) | skip)
        refine hK _ _ _ ?_
        clear hK K
        try simp only [go_sem, List.map_cons, List.map_nil, ↓reduceIte, Nat.reduceEqDiff, Nat.reduceLT, Nat.reduceSub, Nat.reduceAdd, Nat.reduceMul, implies_true, true_and, and_true, cond_true, cond_false]
        refine ⟨⟨i + 1, by omega, by rw [w1 (by omega)], by rw [← hd, hxy]; simp⟩, by rw [w1 (by omega)]; simp; omega⟩
    · skip
      have hge : i = a.length := by simp at hb; omega
      refine awp_exit ?_
      try simp only [go_sem, List.map_cons, List.map_nil, ↓reduceIte, Nat.reduceEqDiff, Nat.reduceLT, Nat.reduceSub, Nat.reduceAdd, Nat.reduceMul, implies_true, true_and, and_true, cond_true, cond_false]
      refine hK2 _ _ _ ?_
      first | clear hK2 K2 | skip
      refine awp_reg zs [4] fun K hK => ?_  -- region 9
      try simp only [go_sem, List.map_cons, List.map_nil, ↓reduceIte, Nat.reduceEqDiff, Nat.reduceLT, Nat.reduceSub, Nat.reduceAdd, Nat.reduceMul, implies_true, true_and, and_true, cond_true, cond_false]
      iterate 14 (first | (refine And.intro ?_ ?_; · first | omega | assumption | (simp; done) | (intros; simp_all; done) | decide) | skip)
      refine hK _ _ _ ?_
      clear hK K
      refine awp_ret ?_
      try simp only [go_sem, List.map_cons, List.map_nil, ↓reduceIte, Nat.reduceEqDiff, Nat.reduceLT, Nat.reduceSub, Nat.reduceAdd, Nat.reduceMul, implies_true, true_and, and_true, cond_true, cond_false]
      first
      | (have h9 : ¬ a = b := fun h => hne (by rw [h])
         simp [h9])
      | (rw [← hd]; simp [hxy])
      | (rw [← hd, hge, hel]; simp [← hel])

theorem c_ref3_Copied (b : List UInt8) (hb : b.length ≤ 140737488355328) (H : Heap) (n : Nat) : Ret Try.prog 54 [bys b] H n (bys b) H n := by
  refine acalls_of_awp Try.func54 rfl Try.ntmps54 (congrArg Array.toList Try.results54) (by simp) ?_
  simp only [go_sem]
  refine awp_reg zs [0] fun K hK => ?_  -- region 0
  try simp only [go_sem, List.map_cons, List.map_nil, ↓reduceIte, Nat.reduceEqDiff, Nat.reduceLT, Nat.reduceSub, Nat.reduceAdd, Nat.reduceMul, implies_true, true_and, and_true, cond_true, cond_false]
  iterate 14 (first | (refine And.intro ?_ ?_; · first | omega | assumption | (simp; done) | (intros; simp_all; done) | decide) | skip)
  refine hK _ _ _ ?_
  clear hK K
  refine awp_reg zs [0, 3] fun K hK => ?_  -- region 1
  try simp only [go_sem, List.map_cons, List.map_nil, ↓reduceIte, Nat.reduceEqDiff, Nat.reduceLT, Nat.reduceSub, Nat.reduceAdd, Nat.reduceMul, implies_true, true_and, and_true, cond_true, cond_false]
  iterate 14 (first | (refine And.intro ?_ ?_; · first | omega | assumption | (simp; done) | (intros; simp_all; done) | decide) | skip)
  refine hK _ _ _ ?_
  clear hK K
  refine awp_reg zs [2] fun K hK => ?_  -- region 2
  try simp only [go_sem, List.map_cons, List.map_nil, ↓reduceIte, Nat.reduceEqDiff, Nat.reduceLT, Nat.reduceSub, Nat.reduceAdd, Nat.reduceMul, implies_true, true_and, and_true, cond_true, cond_false]
  iterate 14 (first | (refine And.intro ?_ ?_; · first | (simp; omega) | exact ⟨.inr trivial, by simp; omega, by simp; omega⟩ | omega | assumption | (simp; done) | (intros; simp_all; done) | decide) | skip)
  refine hK _ _ _ ?_
  clear hK K
  refine awp_ret ?_
  try simp only [go_sem, List.map_cons, List.map_nil, ↓reduceIte, Nat.reduceEqDiff, Nat.reduceLT, Nat.reduceSub, Nat.reduceAdd, Nat.reduceMul, implies_true, true_and, and_true, cond_true, cond_false]

theorem c_ref3_Clone (e : Ent) (he : e.fits) (H : Heap) (n : Nat) : Ret Try.prog 33 [entAV e] H n (entAV e) H n := by
  obtain ⟨h1, h2, h3⟩ := he
  refine Ret.fin ?_
  refine acalls_of_awp Try.func33 rfl Try.ntmps33 (congrArg Array.toList Try.results33) (by simp) ?_
  simp only [go_sem]
  refine awp_reg zs [1, 2, 38] fun K hK => ?_  -- region 0
  try simp only [go_sem, List.map_cons, List.map_nil, ↓reduceIte, Nat.reduceEqDiff, Nat.reduceLT, Nat.reduceSub, Nat.reduceAdd, Nat.reduceMul, implies_true, true_and, and_true, cond_true, cond_false]
  iterate 14 (first | (refine And.intro ?_ ?_; · first | omega | assumption | (simp; done) | (intros; simp_all; done) | decide) | skip)
  refine hK _ _ _ ?_
  clear hK K
  refine awp_reg zs [1, 2, 38] fun K hK => ?_  -- region 1
  try simp only [go_sem, List.map_cons, List.map_nil, ↓reduceIte, Nat.reduceEqDiff, Nat.reduceLT, Nat.reduceSub, Nat.reduceAdd, Nat.reduceMul, implies_true, true_and, and_true, cond_true, cond_false]
  iterate 14 (first | (refine And.intro ?_ ?_; · first | omega | assumption | (simp; done) | (intros; simp_all; done) | decide) | skip)
  refine callK_use Try.func54 rfl rfl rfl ((c_ref3_Copied e.row h1 _ _)) ?_
  try simp only [go_sem, List.map_cons, List.map_nil, ↓reduceIte, Nat.reduceEqDiff, Nat.reduceLT, Nat.reduceSub, Nat.reduceAdd, Nat.reduceMul, implies_true, true_and, and_true, cond_true, cond_false]
  iterate 14 (first | (refine And.intro ?_ ?_; · first | omega | assumption | (simp; done) | (intros; simp_all; done) | decide) | skip)
  refine hK _ _ _ ?_
  clear hK K
  refine awp_reg zs [1, 2, 38] fun K hK => ?_  -- region 2
  try simp only [go_sem, List.map_cons, List.map_nil, ↓reduceIte, Nat.reduceEqDiff, Nat.reduceLT, Nat.reduceSub, Nat.reduceAdd, Nat.reduceMul, implies_true, true_and, and_true, cond_true, cond_false]
  iterate 14 (first | (refine And.intro ?_ ?_; · first | omega | assumption | (simp; done) | (intros; simp_all; done) | decide) | skip)
  refine callK_use Try.func54 rfl rfl rfl ((c_ref3_Copied e.qual h2 _ _)) ?_
  try simp only [go_sem, List.map_cons, List.map_nil, ↓reduceIte, Nat.reduceEqDiff, Nat.reduceLT, Nat.reduceSub, Nat.reduceAdd, Nat.reduceMul, implies_true, true_and, and_true, cond_true, cond_false]
  iterate 14 (first | (refine And.intro ?_ ?_; · first | omega | assumption | (simp; done) | (intros; simp_all; done) | decide) | skip)
  refine hK _ _ _ ?_
  clear hK K
  refine awp_reg zs [1, 2, 38] fun K hK => ?_  -- region 3
  try simp only [go_sem, List.map_cons, List.map_nil, ↓reduceIte, Nat.reduceEqDiff, Nat.reduceLT, Nat.reduceSub, Nat.reduceAdd, Nat.reduceMul, implies_true, true_and, and_true, cond_true, cond_false]
  iterate 14 (first | (refine And.intro ?_ ?_; · first | omega | assumption | (simp; done) | (intros; simp_all; done) | decide) | skip)
  refine callK_use Try.func54 rfl rfl rfl ((c_ref3_Copied e.value h3 _ _)) ?_
  try simp only [go_sem, List.map_cons, List.map_nil, ↓reduceIte, Nat.reduceEqDiff, Nat.reduceLT, Nat.reduceSub, Nat.reduceAdd, Nat.reduceMul, implies_true, true_and, and_true, cond_true, cond_false]
  iterate 14 (first | (refine And.intro ?_ ?_; · first | omega | assumption | (simp; done) | (intros; simp_all; done) | decide) | skip)
  refine hK _ _ _ ?_
  clear hK K
  refine awp_reg zs [2, 38] fun K hK => ?_  -- region 4
  try simp only [go_sem, List.map_cons, List.map_nil, ↓reduceIte, Nat.reduceEqDiff, Nat.reduceLT, Nat.reduceSub, Nat.reduceAdd, Nat.reduceMul, implies_true, true_and, and_true, cond_true, cond_false]
  iterate 14 (first | (refine And.intro ?_ ?_; · first | omega | assumption | (simp; done) | (intros; simp_all; done) | decide) | skip)
  refine hK _ _ _ ?_
  clear hK K
  refine awp_ret ?_
  try simp only [go_sem, List.map_cons, List.map_nil, ↓reduceIte, Nat.reduceEqDiff, Nat.reduceLT, Nat.reduceSub, Nat.reduceAdd, Nat.reduceMul, implies_true, true_and, and_true, cond_true, cond_false]
  refine ⟨_, rfl, ?_, Frz.eq rfl (kl_ent e n)⟩
  intro k hk; have h0 : k ≠ n := by omega
  have h1 : ∀ j, k ≠ n + j := fun j => by omega
  simp [Heap.put, h0, h1]

theorem c_ref3_CloneAll_own (l : List Ent) (hl : l.length ≤ 1000000000) (hf : ∀ e ∈ l, e.fits) (H : Heap) (n : Nat) : Ret Try.prog 22 [entsAV l] H n (.osl n l.length 0 l.length) (H.put n (some (.arr l.length 7 (l.map entAV)))) (n + 1) := by
  refine acalls_of_awp Try.func22 rfl Try.ntmps22 (congrArg Array.toList Try.results22) (by simp) ?_
  simp only [go_sem]
  refine awp_reg zs [0] fun K hK => ?_  -- region 0
  try simp only [go_sem, List.map_cons, List.map_nil, ↓reduceIte, Nat.reduceEqDiff, Nat.reduceLT, Nat.reduceSub, Nat.reduceAdd, Nat.reduceMul, implies_true, true_and, and_true, cond_true, cond_false]
  iterate 14 (first | (refine And.intro ?_ ?_; · first | omega | assumption | (simp; done) | (intros; simp_all; done) | decide) | skip)
  refine hK _ _ _ ?_
  clear hK K
  refine awp_reg zs [0, 3] fun K hK => ?_  -- region 1
  try simp only [go_sem, List.map_cons, List.map_nil, ↓reduceIte, Nat.reduceEqDiff, Nat.reduceLT, Nat.reduceSub, Nat.reduceAdd, Nat.reduceMul, implies_true, true_and, and_true, cond_true, cond_false]
  iterate 14 (first | (refine And.intro ?_ ?_; · first | omega | assumption | (simp; done) | (intros; simp_all; done) | decide) | skip)
  refine hK _ _ _ ?_
  clear hK K
  refine awp_seq_k fun K1 hK1 => ?_
  refine awp_adopt_tmp 3 7 rfl ?_
  refine awp_reg zs [0, 3, 4] fun K hK => ?_  -- region 2
  try simp only [go_sem, List.map_cons, List.map_nil, ↓reduceIte, Nat.reduceEqDiff, Nat.reduceLT, Nat.reduceSub, Nat.reduceAdd, Nat.reduceMul, implies_true, true_and, and_true, cond_true, cond_false]
  iterate 14 (first | (refine And.intro ?_ ?_; · first | omega | assumption | (simp; done) | (intros; simp_all; done) | decide) | skip)
  refine hK _ _ _ ?_
  clear hK K
  refine awp_block ?_
  -- loop 0: head [0, 3, 4]
  refine awp_loop (fun T' H' n' => ∃ i : Nat, i ≤ l.length ∧ T' = tl [(0, .sl 7 (l.map entAV)), (3, .osl n i 0 i), (4, .int .i64 i)] ∧ H' = H.put n (some (.arr i 7 ((l.take i).map entAV))) ∧ n' = n + 1) (fun T' _ _ => l.length - iv (T' 4)) ?_ ?_
  · skip
    exact ⟨0, Nat.zero_le _, rfl, rfl, rfl⟩
  intro T1 H1 n1
  rintro ⟨i, hi, rfl, rfl, rfl⟩
  refine awp_seq_k fun K2 hK2 => ?_
  refine awp_reg zs [0, 3, 4, 8] fun K hK => ?_  -- region 3
  try simp only [go_sem, List.map_cons, List.map_nil, ↓reduceIte, Nat.reduceEqDiff, Nat.reduceLT, Nat.reduceSub, Nat.reduceAdd, Nat.reduceMul, implies_true, true_and, and_true, cond_true, cond_false]
  iterate 14 (first | (refine And.intro ?_ ?_; · first | omega | assumption | (simp; done) | (intros; simp_all; done) | decide) | skip)
  refine hK _ _ _ ?_
  clear hK K
  refine awp_cond (b := _) (by simp only [go_sem, List.map_cons, List.map_nil, ↓reduceIte, Nat.reduceEqDiff, Nat.reduceLT, Nat.reduceSub, Nat.reduceAdd, Nat.reduceMul, implies_true, true_and, and_true, cond_true, cond_false]; rfl) (fun hb => ?_) (fun hb => ?_)  -- t8
  · skip
    have hlt : i < l.length := by simpa using hb
    have hnth : nth (l.map entAV) i = entAV (l.getD i default) := nth_map entAV l i hlt
    have hfe : (l.getD i default).fits := hf _ (by simp [List.getD, List.getElem?_eq_getElem hlt])
    have htk : l.take (i + 1) = l.take i ++ [l.getD i default] := by rw [List.take_add_one]; simp [List.getD, List.getElem?_eq_getElem hlt]
    generalize l.getD i default = e at *
    have hmin : min i l.length = i := by omega
    refine awp_skip ?_
    try simp only [go_sem, List.map_cons, List.map_nil, ↓reduceIte, Nat.reduceEqDiff, Nat.reduceLT, Nat.reduceSub, Nat.reduceAdd, Nat.reduceMul, implies_true, true_and, and_true, cond_true, cond_false]
    refine hK2 _ _ _ ?_
    first | clear hK2 K2 | skip
    refine awp_seq_k fun K3 hK3 => ?_
    refine awp_block ?_
    refine awp_reg1 zs [0, 3, 4] fun K hK => ?_  -- region 5
    try simp only [go_sem, List.map_cons, List.map_nil, ↓reduceIte, Nat.reduceEqDiff, Nat.reduceLT, Nat.reduceSub, Nat.reduceAdd, Nat.reduceMul, implies_true, true_and, and_true, cond_true, cond_false, Int.toNat_natCast, hnth]
    iterate 14 (first | (refine And.intro ?_ ?_; · first | exact ⟨rfl, by decide, by simp [AV.sz, AV.szs, AV.memOK]⟩ | (simp; omega) | omega | assumption | (simp; done) | (intros; simp_all; done) | decide) | skip)
    refine callK_use Try.func33 rfl rfl rfl ((c_ref3_Clone e hfe _ _)) ?_
    try simp only [go_sem, List.map_cons, List.map_nil, ↓reduceIte, Nat.reduceEqDiff, Nat.reduceLT, Nat.reduceSub, Nat.reduceAdd, Nat.reduceMul, implies_true, true_and, and_true, cond_true, cond_false, Int.toNat_natCast, hnth]
    iterate 14 (first | (refine And.intro ?_ ?_; · first | exact ⟨rfl, by decide, by simp [AV.sz, AV.szs, AV.memOK]⟩ | (simp; omega) | omega | assumption | (simp; done) | (intros; simp_all; done) | decide) | skip)
    refine hK _ _ _ ?_
    clear hK K
    try simp only [go_sem, List.map_cons, List.map_nil, ↓reduceIte, Nat.reduceEqDiff, Nat.reduceLT, Nat.reduceSub, Nat.reduceAdd, Nat.reduceMul, implies_true, true_and, and_true, cond_true, cond_false]
    refine hK3 _ _ _ ?_
    first | clear hK3 K3 | skip
    refine awp_reg1 zs [0, 3, 4] fun K hK => ?_  -- region 4
    try simp only [go_sem, List.map_cons, List.map_nil, ↓reduceIte, Nat.reduceEqDiff, Nat.reduceLT, Nat.reduceSub, Nat.reduceAdd, Nat.reduceMul, implies_true, true_and, and_true, cond_true, cond_false]
    iterate 14 (first | (refine And.intro ?_ ?_; · first | omega | assumption | (simp; done) | (intros; simp_all; done) | decide) | skip)
    refine hK _ _ _ ?_
    clear hK K
    try simp only [go_sem, List.map_cons, List.map_nil, ↓reduceIte, Nat.reduceEqDiff, Nat.reduceLT, Nat.reduceSub, Nat.reduceAdd, Nat.reduceMul, implies_true, true_and, and_true, cond_true, cond_false]
    refine ⟨⟨i + 1, by omega, by rw [w1 (by omega)], ?_⟩, by rw [w1 (by omega)]; simp; omega⟩
    rw [htk]; simp [List.take_take]; rfl
  · skip
    have hge : i = l.length := by simp at hb; omega
    refine awp_exit ?_
    try simp only [go_sem, List.map_cons, List.map_nil, ↓reduceIte, Nat.reduceEqDiff, Nat.reduceLT, Nat.reduceSub, Nat.reduceAdd, Nat.reduceMul, implies_true, true_and, and_true, cond_true, cond_false]
    refine hK1 _ _ _ ?_
    first | clear hK1 K1 | skip
    refine awp_reg zs [2] fun K hK => ?_  -- region 6
    try simp only [go_sem, List.map_cons, List.map_nil, ↓reduceIte, Nat.reduceEqDiff, Nat.reduceLT, Nat.reduceSub, Nat.reduceAdd, Nat.reduceMul, implies_true, true_and, and_true, cond_true, cond_false]
    iterate 14 (first | (refine And.intro ?_ ?_; · first | omega | assumption | (simp; done) | (intros; simp_all; done) | decide) | skip)
    refine hK _ _ _ ?_
    clear hK K
    refine awp_ret ?_
    try simp only [go_sem, List.map_cons, List.map_nil, ↓reduceIte, Nat.reduceEqDiff, Nat.reduceLT, Nat.reduceSub, Nat.reduceAdd, Nat.reduceMul, implies_true, true_and, and_true, cond_true, cond_false]
    rw [hge, List.take_length]; exact ⟨rfl, rfl⟩

theorem c_ref3_CloneAll (l : List Ent) (hl : l.length ≤ 1000000000) (hf : ∀ e ∈ l, e.fits) (H : Heap) (n : Nat) : Ret Try.prog 22 [entsAV l] H n (entsAV l) H n :=
  Ret.fin ((c_ref3_CloneAll_own l hl hf H n).use ⟨_, rfl, fun k hk => Heap.put_ne _ _ (by omega), .osl (Heap.put_same _ _ _) (Nat.le_refl _) (by simp) (by rw [List.drop_zero, List.take_of_length_le (by simp)]; exact FrzL.kls _ (kls_ents _ _))⟩)

theorem c_law_join (a b : List Ent) (ha : a.length ≤ 100000000) (hb : b.length ≤ 100000000) (hfa : ∀ e ∈ a, e.fits) (hfb : ∀ e ∈ b, e.fits) (H : Heap) (n : Nat) : Ret Try.prog 14 [entsAV a, entsAV b] H n (entsAV (a ++ b)) H n := by
  refine Ret.fin ?_
  refine acalls_of_awp Try.func14 rfl Try.ntmps14 (congrArg Array.toList Try.results14) (by simp) ?_
  simp only [go_sem]
  refine awp_reg zs [0, 1] fun K hK => ?_  -- region 0
  try simp only [go_sem, List.map_cons, List.map_nil, ↓reduceIte, Nat.reduceEqDiff, Nat.reduceLT, Nat.reduceSub, Nat.reduceAdd, Nat.reduceMul, implies_true, true_and, and_true, cond_true, cond_false]
  iterate 14 (first | (refine And.intro ?_ ?_; · first | omega | assumption | (simp; done) | (intros; simp_all; done) | decide) | skip)
  refine hK _ _ _ ?_
  clear hK K
  refine awp_reg zs [4] fun K hK => ?_  -- region 1
  try simp only [go_sem, List.map_cons, List.map_nil, ↓reduceIte, Nat.reduceEqDiff, Nat.reduceLT, Nat.reduceSub, Nat.reduceAdd, Nat.reduceMul, implies_true, true_and, and_true, cond_true, cond_false]
  iterate 14 (first | (refine And.intro ?_ ?_; · first | exact ⟨by simp, .inr trivial, by simp; omega, by simp; omega⟩ | omega | assumption | (simp; done) | (intros; simp_all; done) | decide) | skip)
  refine callK_use Try.func22 rfl rfl rfl ((c_ref3_CloneAll_own a (by omega) hfa _ _)) ?_
  try simp only [go_sem, List.map_cons, List.map_nil, ↓reduceIte, Nat.reduceEqDiff, Nat.reduceLT, Nat.reduceSub, Nat.reduceAdd, Nat.reduceMul, implies_true, true_and, and_true, cond_true, cond_false]
  iterate 14 (first | (refine And.intro ?_ ?_; · first | exact ⟨by simp, .inr trivial, by simp; omega, by simp; omega⟩ | omega | assumption | (simp; done) | (intros; simp_all; done) | decide) | skip)
  refine callK_use Try.func22 rfl rfl rfl ((c_ref3_CloneAll b (by omega) hfb _ _)) ?_
  try simp only [go_sem, List.map_cons, List.map_nil, ↓reduceIte, Nat.reduceEqDiff, Nat.reduceLT, Nat.reduceSub, Nat.reduceAdd, Nat.reduceMul, implies_true, true_and, and_true, cond_true, cond_false]
  iterate 14 (first | (refine And.intro ?_ ?_; · first | exact ⟨by simp, .inr trivial, by simp; omega, by simp; omega⟩ | omega | assumption | (simp; done) | (intros; simp_all; done) | decide) | skip)
  refine hK _ _ _ ?_
  clear hK K
  refine awp_ret ?_
  try simp only [go_sem, List.map_cons, List.map_nil, ↓reduceIte, Nat.reduceEqDiff, Nat.reduceLT, Nat.reduceSub, Nat.reduceAdd, Nat.reduceMul, implies_true, true_and, and_true, cond_true, cond_false]
  refine ⟨_, rfl, fun k hk => Heap.put_ne _ _ (by omega), .osl (Heap.put_same _ _ _) (Nat.le_refl _) (by simp) ?_⟩
  rw [List.drop_zero, List.take_of_length_le (by simp), List.take_of_length_le (by simp), ← List.map_append]; exact FrzL.kls _ (kls_ents _ _)

theorem c_law_sound (s : List Fml) (clock : Int) (l : List Ent) (hl : l.length ≤ 100000000) (H : Heap) (n : Nat) : Ret Try.prog 13 [schAV s, .int .i64 clock, entsAV l] H n (.bool ((visE s clock l).2 == 0)) H n := by
  refine Ret.fin ?_
  refine acalls_of_awp Try.func13 rfl Try.ntmps13 (congrArg Array.toList Try.results13) (by simp) ?_
  simp only [go_sem]
  refine awp_reg zs [1, 2, 3] fun K hK => ?_  -- region 0
  try simp only [go_sem, List.map_cons, List.map_nil, ↓reduceIte, Nat.reduceEqDiff, Nat.reduceLT, Nat.reduceSub, Nat.reduceAdd, Nat.reduceMul, implies_true, true_and, and_true, cond_true, cond_false]
  iterate 14 (first | (refine And.intro ?_ ?_; · first | omega | assumption | (simp; done) | (intros; simp_all; done) | decide) | skip)
  refine hK _ _ _ ?_
  clear hK K
  refine awp_reg zs [8] fun K hK => ?_  -- region 1
  try simp only [go_sem, List.map_cons, List.map_nil, ↓reduceIte, Nat.reduceEqDiff, Nat.reduceLT, Nat.reduceSub, Nat.reduceAdd, Nat.reduceMul, implies_true, true_and, and_true, cond_true, cond_false]
  iterate 14 (first | (refine And.intro ?_ ?_; · first | omega | assumption | (simp; done) | (intros; simp_all; done) | decide) | skip)
  refine callK_use Try.func19 rfl rfl rfl ((c_retain_Vis s clock l hl _ _)) ?_
  try simp only [go_sem, List.map_cons, List.map_nil, ↓reduceIte, Nat.reduceEqDiff, Nat.reduceLT, Nat.reduceSub, Nat.reduceAdd, Nat.reduceMul, implies_true, true_and, and_true, cond_true, cond_false]
  iterate 14 (first | (refine And.intro ?_ ?_; · first | omega | assumption | (simp; done) | (intros; simp_all; done) | decide) | skip)
  refine hK _ _ _ ?_
  clear hK K
  refine awp_reg zs [6] fun K hK => ?_  -- region 2
  try simp only [go_sem, List.map_cons, List.map_nil, ↓reduceIte, Nat.reduceEqDiff, Nat.reduceLT, Nat.reduceSub, Nat.reduceAdd, Nat.reduceMul, implies_true, true_and, and_true, cond_true, cond_false]
  iterate 14 (first | (refine And.intro ?_ ?_; · first | omega | assumption | (simp; done) | (intros; simp_all; done) | decide) | skip)
  refine callK_use Try.func16 rfl rfl rfl ((by apply c_law_num <;> first | assumption | omega)) ?_
  try simp only [go_sem, List.map_cons, List.map_nil, ↓reduceIte, Nat.reduceEqDiff, Nat.reduceLT, Nat.reduceSub, Nat.reduceAdd, Nat.reduceMul, implies_true, true_and, and_true, cond_true, cond_false]
  iterate 14 (first | (refine And.intro ?_ ?_; · first | omega | assumption | (simp; done) | (intros; simp_all; done) | decide) | skip)
  refine hK _ _ _ ?_
  clear hK K
  refine awp_ret ?_
  try simp only [go_sem, List.map_cons, List.map_nil, ↓reduceIte, Nat.reduceEqDiff, Nat.reduceLT, Nat.reduceSub, Nat.reduceAdd, Nat.reduceMul, implies_true, true_and, and_true, cond_true, cond_false]
  refine ⟨_, rfl, ?_, Frz.eq rfl trivial⟩
  intro k hk; have h0 : k ≠ n := by omega
  simp [Heap.put, h0]

/-- has no entry of the one list a Seq of the other -/
def apartE (a b : List Ent) : Bool := a.all fun x => b.all fun y => x.seq != y.seq
theorem c_law_apart (a b : List Ent) (ha : a.length < 4611686018427387904) (hb9 : b.length < 4611686018427387904) (H : Heap) (n : Nat) : Ret Try.prog 12 [entsAV a, entsAV b] H n (.bool (apartE a b)) H n := by
  refine acalls_of_awp Try.func12 rfl Try.ntmps12 (congrArg Array.toList Try.results12) (by simp) ?_
  simp only [go_sem]
  refine awp_reg zs [0, 1] fun K hK => ?_  -- region 0
  try simp only [go_sem, List.map_cons, List.map_nil, ↓reduceIte, Nat.reduceEqDiff, Nat.reduceLT, Nat.reduceSub, Nat.reduceAdd, Nat.reduceMul, implies_true, true_and, and_true, cond_true, cond_false]
  iterate 14 (first | (refine And.intro ?_ ?_; · first | omega | assumption | (simp; done) | (intros; simp_all; done) | decide) | skip)
  refine hK _ _ _ ?_
  clear hK K
  refine awp_seq_k fun K1 hK1 => ?_
  refine awp_reg zs [0, 1, 5] fun K hK => ?_  -- region 1
  try simp only [go_sem, List.map_cons, List.map_nil, ↓reduceIte, Nat.reduceEqDiff, Nat.reduceLT, Nat.reduceSub, Nat.reduceAdd, Nat.reduceMul, implies_true, true_and, and_true, cond_true, cond_false]
  iterate 14 (first | (refine And.intro ?_ ?_; · first | omega | assumption | (simp; done) | (intros; simp_all; done) | decide) | skip)
  refine hK _ _ _ ?_
  clear hK K
  refine awp_block ?_
  -- loop 0: head [0, 1, 5]
  refine awp_loop (fun T' H' n' => ∃ i : Nat, i ≤ a.length ∧ T' = tl [(0, .sl 7 (a.map entAV)), (1, .sl 7 (b.map entAV)), (5, .int .i64 i)] ∧ H' = H ∧ n' = n ∧ apartE (a.drop i) b = apartE a b) (fun T' _ _ => a.length - iv (T' 5)) ?_ ?_
  · skip
    exact ⟨0, Nat.zero_le _, rfl, rfl, rfl, rfl⟩
  intro T1 H1 n1
  rintro ⟨i, hi, rfl, rfl, rfl, hd⟩
  refine awp_seq_k fun K2 hK2 => ?_
  refine awp_reg zs [0, 1, 5, 10] fun K hK => ?_  -- region 2
  try simp only [go_sem, List.map_cons, List.map_nil, ↓reduceIte, Nat.reduceEqDiff, Nat.reduceLT, Nat.reduceSub, Nat.reduceAdd, Nat.reduceMul, implies_true, true_and, and_true, cond_true, cond_false]
  iterate 14 (first | (refine And.intro ?_ ?_; · first | omega | assumption | (simp; done) | (intros; simp_all; done) | decide) | skip)
  refine hK _ _ _ ?_
  clear hK K
  refine awp_cond (b := _) (by simp only [go_sem, List.map_cons, List.map_nil, ↓reduceIte, Nat.reduceEqDiff, Nat.reduceLT, Nat.reduceSub, Nat.reduceAdd, Nat.reduceMul, implies_true, true_and, and_true, cond_true, cond_false]; rfl) (fun hb => ?_) (fun hb => ?_)  -- t10
  · skip
    have hlt : i < a.length := by simpa using hb
    have hn1 : nth (a.map entAV) i = entAV (a.getD i default) := nth_map entAV a i hlt
    rw [drop_cons a i hlt] at hd
    generalize a.getD i default = x at *
    refine awp_skip ?_
    try simp only [go_sem, List.map_cons, List.map_nil, ↓reduceIte, Nat.reduceEqDiff, Nat.reduceLT, Nat.reduceSub, Nat.reduceAdd, Nat.reduceMul, implies_true, true_and, and_true, cond_true, cond_false]
    refine hK2 _ _ _ ?_
    first | clear hK2 K2 | skip
    refine awp_seq_k fun K3 hK3 => ?_
    refine awp_block ?_
    refine awp_reg zs [0, 1, 5, 6] fun K hK => ?_  -- region 4
    try simp only [go_sem, List.map_cons, List.map_nil, ↓reduceIte, Nat.reduceEqDiff, Nat.reduceLT, Nat.reduceSub, Nat.reduceAdd, Nat.reduceMul, implies_true, true_and, and_true, cond_true, cond_false]
    iterate 14 (first | (refine And.intro ?_ ?_; · first | omega | assumption | (simp; done) | (intros; simp_all; done) | decide) | skip)
    refine hK _ _ _ ?_
    clear hK K
    refine awp_block ?_
    -- loop 1: head [0, 1, 5, 6]
    refine awp_loop (fun T' H' n' => ∃ j : Nat, j ≤ b.length ∧ T' = tl [(0, .sl 7 (a.map entAV)), (1, .sl 7 (b.map entAV)), (5, .int .i64 i), (6, .int .i64 j)] ∧ H' = H1 ∧ n' = n1 ∧ (b.drop j).all (fun y => x.seq != y.seq) = b.all (fun y => x.seq != y.seq)) (fun T' _ _ => b.length - iv (T' 6)) ?_ ?_
    · skip
      exact ⟨0, Nat.zero_le _, rfl, rfl, rfl, rfl⟩
    intro T1 H1 n1
    rintro ⟨j, hj, rfl, rfl, rfl, hd2⟩
    refine awp_seq_k fun K4 hK4 => ?_
    refine awp_reg zs [0, 1, 5, 6, 16] fun K hK => ?_  -- region 5
    try simp only [go_sem, List.map_cons, List.map_nil, ↓reduceIte, Nat.reduceEqDiff, Nat.reduceLT, Nat.reduceSub, Nat.reduceAdd, Nat.reduceMul, implies_true, true_and, and_true, cond_true, cond_false]
    iterate 14 (first | (refine And.intro ?_ ?_; · first | omega | assumption | (simp; done) | (intros; simp_all; done) | decide) | skip)
    refine hK _ _ _ ?_
    clear hK K
    refine awp_cond (b := _) (by simp only [go_sem, List.map_cons, List.map_nil, ↓reduceIte, Nat.reduceEqDiff, Nat.reduceLT, Nat.reduceSub, Nat.reduceAdd, Nat.reduceMul, implies_true, true_and, and_true, cond_true, cond_false]; rfl) (fun hb => ?_) (fun hb => ?_)  -- t16
    · skip
      have hlt2 : j < b.length := by simpa using hb
      have hn2 : nth (b.map entAV) j = entAV (b.getD j default) := nth_map entAV b j hlt2
      rw [drop_cons b j hlt2] at hd2
      generalize b.getD j default = y at *
      refine awp_skip ?_
      try simp only [go_sem, List.map_cons, List.map_nil, ↓reduceIte, Nat.reduceEqDiff, Nat.reduceLT, Nat.reduceSub, Nat.reduceAdd, Nat.reduceMul, implies_true, true_and, and_true, cond_true, cond_false]
      refine hK4 _ _ _ ?_
      first | clear hK4 K4 | skip
      refine awp_seq_k fun K5 hK5 => ?_
      refine awp_block ?_
      refine awp_drw rfl zs [0, 1, 5, 6, 29] [.m, .m, .q, .q, .q, .m, .m, .q, .q, .q, .q] (by kernel_rfl) (fun _ _ _ _ _ h => h) fun K hK => ?_  -- region 7
      try simp only [go_sem, List.map_cons, List.map_nil, ↓reduceIte, Nat.reduceEqDiff, Nat.reduceLT, Nat.reduceSub, Nat.reduceAdd, Nat.reduceMul, implies_true, true_and, and_true, cond_true, cond_false, Int.toNat_natCast, hn1, hn2]
      iterate 14 (first | (refine And.intro ?_ ?_; · first | omega | assumption | (simp; done) | (intros; simp_all; done) | decide) | skip)
      refine hK _ _ _ ?_
      clear hK K
      refine awp_cond (b := _) (by simp only [go_sem, List.map_cons, List.map_nil, ↓reduceIte, Nat.reduceEqDiff, Nat.reduceLT, Nat.reduceSub, Nat.reduceAdd, Nat.reduceMul, implies_true, true_and, and_true, cond_true, cond_false]; rfl) (fun hb => ?_) (fun hb => ?_)  -- t29
      · skip
        have hxy : x.seq = y.seq := by simpa using hb
        refine awp_reg zs [4] fun K hK => ?_  -- region 8
        try simp only [go_sem, List.map_cons, List.map_nil, ↓reduceIte, Nat.reduceEqDiff, Nat.reduceLT, Nat.reduceSub, Nat.reduceAdd, Nat.reduceMul, implies_true, true_and, and_true, cond_true, cond_false]
        iterate 14 (first | (refine And.intro ?_ ?_; · first | omega | assumption | (simp; done) | (intros; simp_all; done) | decide) | skip)
        refine hK _ _ _ ?_
        clear hK K
        refine awp_ret ?_
        try simp only [go_sem, List.map_cons, List.map_nil, ↓reduceIte, Nat.reduceEqDiff, Nat.reduceLT, Nat.reduceSub, Nat.reduceAdd, Nat.reduceMul, implies_true, true_and, and_true, cond_true, cond_false]
        first
        | (have h9 : apartE a b = false := by rw [← hd]; unfold apartE; rw [List.all_cons, ← hd2]; simp [hxy]
           rw [h9])
        | (rw [← hd, hge]; simp [apartE])
      · skip
        have hxy : x.seq ≠ y.seq := by simpa using hb
        refine awp_skip ?_
        try simp only [go_sem, List.map_cons, List.map_nil, ↓reduceIte, Nat.reduceEqDiff, Nat.reduceLT, Nat.reduceSub, Nat.reduceAdd, Nat.reduceMul, implies_true, true_and, and_true, cond_true, cond_false]
        refine hK5 _ _ _ ?_
        first | clear hK5 K5 | skip
        refine awp_reg1 zs [0, 1, 5, 6] fun K hK => ?_  -- region 6
        try simp only [go_sem, List.map_cons, List.map_nil, ↓reduceIte, Nat.reduceEqDiff, Nat.reduceLT, Nat.reduceSub, Nat.reduceAdd, Nat.reduceMul, implies_true, true_and, and_true, cond_true, cond_false]
        iterate 14 (first | (refine And.intro ?_ ?_; · first | omega | assumption | (simp; done) | (intros; simp_all; done) | decide) | skip)
        refine hK _ _ _ ?_
        clear hK K
        try simp only [go_sem, List.map_cons, List.map_nil, ↓reduceIte, Nat.reduceEqDiff, Nat.reduceLT, Nat.reduceSub, Nat.reduceAdd, Nat.reduceMul, implies_true, true_and, and_true, cond_true, cond_false]
        refine ⟨⟨j + 1, by omega, by rw [w1 (by omega)], by rw [← hd2]; simp [hxy]⟩, by rw [w1 (by omega)]; simp; omega⟩
    · skip
      have hge : j = b.length := by simp at hb; omega
      have hall : b.all (fun y => x.seq != y.seq) = true := by rw [← hd2, hge]; simp
      refine awp_exit ?_
      try simp only [go_sem, List.map_cons, List.map_nil, ↓reduceIte, Nat.reduceEqDiff, Nat.reduceLT, Nat.reduceSub, Nat.reduceAdd, Nat.reduceMul, implies_true, true_and, and_true, cond_true, cond_false]
      refine hK3 _ _ _ ?_
      first | clear hK3 K3 | skip
      refine awp_reg1 zs [0, 1, 5] fun K hK => ?_  -- region 3
      try simp only [go_sem, List.map_cons, List.map_nil, ↓reduceIte, Nat.reduceEqDiff, Nat.reduceLT, Nat.reduceSub, Nat.reduceAdd, Nat.reduceMul, implies_true, true_and, and_true, cond_true, cond_false]
      iterate 14 (first | (refine And.intro ?_ ?_; · first | omega | assumption | (simp; done) | (intros; simp_all; done) | decide) | skip)
      refine hK _ _ _ ?_
      clear hK K
      try simp only [go_sem, List.map_cons, List.map_nil, ↓reduceIte, Nat.reduceEqDiff, Nat.reduceLT, Nat.reduceSub, Nat.reduceAdd, Nat.reduceMul, implies_true, true_and, and_true, cond_true, cond_false]
      refine ⟨⟨i + 1, by omega, by rw [w1 (by omega)], by rw [← hd]; unfold apartE; rw [List.all_cons, hall]; rfl⟩, by rw [w1 (by omega)]; simp; omega⟩
  · skip
    have hge : i = a.length := by simp at hb; omega
    refine awp_exit ?_
    try simp only [go_sem, List.map_cons, List.map_nil, ↓reduceIte, Nat.reduceEqDiff, Nat.reduceLT, Nat.reduceSub, Nat.reduceAdd, Nat.reduceMul, implies_true, true_and, and_true, cond_true, cond_false]
    refine hK1 _ _ _ ?_
    first | clear hK1 K1 | skip
    refine awp_reg zs [4] fun K hK => ?_  -- region 9
    try simp only [go_sem, List.map_cons, List.map_nil, ↓reduceIte, Nat.reduceEqDiff, Nat.reduceLT, Nat.reduceSub, Nat.reduceAdd, Nat.reduceMul, implies_true, true_and, and_true, cond_true, cond_false]
    iterate 14 (first | (refine And.intro ?_ ?_; · first | omega | assumption | (simp; done) | (intros; simp_all; done) | decide) | skip)
    refine hK _ _ _ ?_
    clear hK K
    refine awp_ret ?_
    try simp only [go_sem, List.map_cons, List.map_nil, ↓reduceIte, Nat.reduceEqDiff, Nat.reduceLT, Nat.reduceSub, Nat.reduceAdd, Nat.reduceMul, implies_true, true_and, and_true, cond_true, cond_false]
    first
    | (have h9 : apartE a b = false := by rw [← hd]; unfold apartE; rw [List.all_cons, ← hd2]; simp [hxy]
       rw [h9])
    | (rw [← hd, hge]; simp [apartE])


end Go.Proofs.Ytijhkfhflpmajaa
namespace Go.Proofs.Ytijhkfhflpmajaa
open Go Go.Sx Go.Rt Go.Proofs

def oneE (kind ts seq : Int) : Ent := ⟨[114], 0, if kind = 5 then [] else [113], ts, seq, kind, if kind = 1 then [118] else []⟩
theorem c_law_one (kind ts seq : Int) (H : Heap) (n : Nat) : Ret Try.prog 38 [.int .i64 kind, .int .i64 ts, .int .i64 seq] H n (entAV (oneE kind ts seq)) H n := by
  refine Ret.fin ?_
  refine acalls_of_awp Try.func38 rfl Try.ntmps38 (congrArg Array.toList Try.results38) (by simp) ?_
  simp only [go_sem]
  refine awp_reg zs [0, 1, 2, 6, 38] fun K hK => ?_  -- region 0
  try simp only [go_sem, List.map_cons, List.map_nil, ↓reduceIte, Nat.reduceEqDiff, Nat.reduceLT, Nat.reduceSub, Nat.reduceAdd, Nat.reduceMul, implies_true, true_and, and_true, cond_true, cond_false, Nat.add_assoc]
  iterate 14 (first | (refine And.intro ?_ ?_; · first | omega | assumption | (simp; done) | (intros; simp_all; done) | decide) | skip)
  refine hK _ _ _ ?_
  clear hK K
  refine awp_reg zo [0, 6, 7, 38] fun K hK => ?_  -- region 1
  try simp only [go_sem, List.map_cons, List.map_nil, ↓reduceIte, Nat.reduceEqDiff, Nat.reduceLT, Nat.reduceSub, Nat.reduceAdd, Nat.reduceMul, implies_true, true_and, and_true, cond_true, cond_false, Nat.add_assoc]
  iterate 14 (first | (refine And.intro ?_ ?_; · first | omega | assumption | (simp; done) | (intros; simp_all; done) | decide) | skip)
  refine hK _ _ _ ?_
  clear hK K
  refine awp_seq_k fun K1 hK1 => ?_
  refine awp_reg zs [0, 6, 7, 17, 38] fun K hK => ?_  -- region 2
  try simp only [go_sem, List.map_cons, List.map_nil, ↓reduceIte, Nat.reduceEqDiff, Nat.reduceLT, Nat.reduceSub, Nat.reduceAdd, Nat.reduceMul, implies_true, true_and, and_true, cond_true, cond_false, Nat.add_assoc]
  iterate 14 (first | (refine And.intro ?_ ?_; · first | omega | assumption | (simp; done) | (intros; simp_all; done) | decide) | skip)
  refine hK _ _ _ ?_
  clear hK K
  refine awp_cond (b := _) (by simp only [go_sem, List.map_cons, List.map_nil, ↓reduceIte, Nat.reduceEqDiff, Nat.reduceLT, Nat.reduceSub, Nat.reduceAdd, Nat.reduceMul, implies_true, true_and, and_true, cond_true, cond_false]; rfl) (fun hb => ?_) (fun hb => ?_)  -- t17
  · skip
    have h1 : kind = 1 := by simpa using hb
    refine awp_reg1 zo [0, 6, 7, 38] fun K hK => ?_  -- region 3
    try simp only [go_sem, List.map_cons, List.map_nil, ↓reduceIte, Nat.reduceEqDiff, Nat.reduceLT, Nat.reduceSub, Nat.reduceAdd, Nat.reduceMul, implies_true, true_and, and_true, cond_true, cond_false, Nat.add_assoc]
    iterate 14 (first | (refine And.intro ?_ ?_; · first | omega | assumption | (simp; done) | (intros; simp_all; done) | decide) | skip)
    refine hK _ _ _ ?_
    clear hK K
    try simp only [go_sem, List.map_cons, List.map_nil, ↓reduceIte, Nat.reduceEqDiff, Nat.reduceLT, Nat.reduceSub, Nat.reduceAdd, Nat.reduceMul, implies_true, true_and, and_true, cond_true, cond_false, Nat.add_assoc]
    refine hK1 _ _ _ ?_
    first | clear hK1 K1 | skip
    refine awp_seq_k fun K2 hK2 => ?_
    refine awp_reg zs [6, 7, 22, 38] fun K hK => ?_  -- region 4
    try simp only [go_sem, List.map_cons, List.map_nil, ↓reduceIte, Nat.reduceEqDiff, Nat.reduceLT, Nat.reduceSub, Nat.reduceAdd, Nat.reduceMul, implies_true, true_and, and_true, cond_true, cond_false, Nat.add_assoc]
    iterate 14 (first | (refine And.intro ?_ ?_; · first | omega | assumption | (simp; done) | (intros; simp_all; done) | decide) | skip)
    refine hK _ _ _ ?_
    clear hK K
    refine awp_cond (b := _) (by simp only [go_sem, List.map_cons, List.map_nil, ↓reduceIte, Nat.reduceEqDiff, Nat.reduceLT, Nat.reduceSub, Nat.reduceAdd, Nat.reduceMul, implies_true, true_and, and_true, cond_true, cond_false]; rfl) (fun hb => ?_) (fun hb => ?_)  -- t22
    · skip
      have h2 : kind = 5 := by simpa using hb
      refine awp_reg1 zs [6, 7, 38] fun K hK => ?_  -- region 5
      try simp only [go_sem, List.map_cons, List.map_nil, ↓reduceIte, Nat.reduceEqDiff, Nat.reduceLT, Nat.reduceSub, Nat.reduceAdd, Nat.reduceMul, implies_true, true_and, and_true, cond_true, cond_false, Nat.add_assoc]
      iterate 14 (first | (refine And.intro ?_ ?_; · first | omega | assumption | (simp; done) | (intros; simp_all; done) | decide) | skip)
      refine hK _ _ _ ?_
      clear hK K
      try simp only [go_sem, List.map_cons, List.map_nil, ↓reduceIte, Nat.reduceEqDiff, Nat.reduceLT, Nat.reduceSub, Nat.reduceAdd, Nat.reduceMul, implies_true, true_and, and_true, cond_true, cond_false, Nat.add_assoc]
      refine hK2 _ _ _ ?_
      first | clear hK2 K2 | skip
      refine awp_reg zs [6, 38] fun K hK => ?_  -- region 6
      try simp only [go_sem, List.map_cons, List.map_nil, ↓reduceIte, Nat.reduceEqDiff, Nat.reduceLT, Nat.reduceSub, Nat.reduceAdd, Nat.reduceMul, implies_true, true_and, and_true, cond_true, cond_false, Nat.add_assoc]
      iterate 14 (first | (refine And.intro ?_ ?_; · first | omega | assumption | (simp; done) | (intros; simp_all; done) | decide) | skip)
      refine hK _ _ _ ?_
      clear hK K
      refine awp_ret ?_
      try simp only [go_sem, List.map_cons, List.map_nil, ↓reduceIte, Nat.reduceEqDiff, Nat.reduceLT, Nat.reduceSub, Nat.reduceAdd, Nat.reduceMul, implies_true, true_and, and_true, cond_true, cond_false, Nat.add_assoc]
      refine ⟨_, rfl, ?_, ?_⟩
      · intro k hk; have h0 : k ≠ n := by omega
        have h1 : ∀ j, k ≠ n + j := fun j => by omega
        simp [Heap.put, h0, h1]
      · simp only [oneE, h1, h2, if_true, if_false, entAV, Int.reduceEq, Nat.reduceEqDiff]
        refine Frz.agg ?_
        repeat' (first | exact FrzL.nil | refine FrzL.cons ?_ ?_ | exact Frz.nilsl | exact Frz.kl (a := .sl 1 [.int .u8 114]) ⟨trivial, trivial⟩ | exact Frz.kl (a := .sl 1 [.int .u8 113]) ⟨trivial, trivial⟩ | exact Frz.kl (a := .sl 1 [.int .u8 118]) ⟨trivial, trivial⟩ | exact Frz.kl trivial | (exfalso; omega))
    · skip
      have h2 : kind ≠ 5 := by simpa using hb
      refine awp_skip ?_
      try simp only [go_sem, List.map_cons, List.map_nil, ↓reduceIte, Nat.reduceEqDiff, Nat.reduceLT, Nat.reduceSub, Nat.reduceAdd, Nat.reduceMul, implies_true, true_and, and_true, cond_true, cond_false, Nat.add_assoc]
      refine hK2 _ _ _ ?_
      first | clear hK2 K2 | skip
      refine awp_reg zs [6, 38] fun K hK => ?_  -- region 6
      try simp only [go_sem, List.map_cons, List.map_nil, ↓reduceIte, Nat.reduceEqDiff, Nat.reduceLT, Nat.reduceSub, Nat.reduceAdd, Nat.reduceMul, implies_true, true_and, and_true, cond_true, cond_false, Nat.add_assoc]
      iterate 14 (first | (refine And.intro ?_ ?_; · first | omega | assumption | (simp; done) | (intros; simp_all; done) | decide) | skip)
      refine hK _ _ _ ?_
      clear hK K
      refine awp_ret ?_
      try simp only [go_sem, List.map_cons, List.map_nil, ↓reduceIte, Nat.reduceEqDiff, Nat.reduceLT, Nat.reduceSub, Nat.reduceAdd, Nat.reduceMul, implies_true, true_and, and_true, cond_true, cond_false, Nat.add_assoc]
      refine ⟨_, rfl, ?_, ?_⟩
      · intro k hk; have h0 : k ≠ n := by omega
        have h1 : ∀ j, k ≠ n + j := fun j => by omega
        simp [Heap.put, h0, h1]
      · simp only [oneE, h1, h2, if_true, if_false, entAV, Int.reduceEq, Nat.reduceEqDiff]
        refine Frz.agg ?_
        repeat' (first | exact FrzL.nil | refine FrzL.cons ?_ ?_ | exact Frz.nilsl | exact Frz.kl (a := .sl 1 [.int .u8 114]) ⟨trivial, trivial⟩ | exact Frz.kl (a := .sl 1 [.int .u8 113]) ⟨trivial, trivial⟩ | exact Frz.kl (a := .sl 1 [.int .u8 118]) ⟨trivial, trivial⟩ | exact Frz.kl trivial | (exfalso; omega))
  · skip
    have h1 : kind ≠ 1 := by simpa using hb
    refine awp_skip ?_
    try simp only [go_sem, List.map_cons, List.map_nil, ↓reduceIte, Nat.reduceEqDiff, Nat.reduceLT, Nat.reduceSub, Nat.reduceAdd, Nat.reduceMul, implies_true, true_and, and_true, cond_true, cond_false, Nat.add_assoc]
    refine hK1 _ _ _ ?_
    first | clear hK1 K1 | skip
    refine awp_seq_k fun K3 hK3 => ?_
    refine awp_reg zs [6, 7, 22, 38] fun K hK => ?_  -- region 4
    try simp only [go_sem, List.map_cons, List.map_nil, ↓reduceIte, Nat.reduceEqDiff, Nat.reduceLT, Nat.reduceSub, Nat.reduceAdd, Nat.reduceMul, implies_true, true_and, and_true, cond_true, cond_false, Nat.add_assoc]
    iterate 14 (first | (refine And.intro ?_ ?_; · first | omega | assumption | (simp; done) | (intros; simp_all; done) | decide) | skip)
    refine hK _ _ _ ?_
    clear hK K
    refine awp_cond (b := _) (by simp only [go_sem, List.map_cons, List.map_nil, ↓reduceIte, Nat.reduceEqDiff, Nat.reduceLT, Nat.reduceSub, Nat.reduceAdd, Nat.reduceMul, implies_true, true_and, and_true, cond_true, cond_false]; rfl) (fun hb => ?_) (fun hb => ?_)  -- t22
    · skip
      have h2 : kind = 5 := by simpa using hb
      refine awp_reg1 zs [6, 7, 38] fun K hK => ?_  -- region 5
      try simp only [go_sem, List.map_cons, List.map_nil, ↓reduceIte, Nat.reduceEqDiff, Nat.reduceLT, Nat.reduceSub, Nat.reduceAdd, Nat.reduceMul, implies_true, true_and, and_true, cond_true, cond_false, Nat.add_assoc]
      iterate 14 (first | (refine And.intro ?_ ?_; · first | omega | assumption | (simp; done) | (intros; simp_all; done) | decide) | skip)
      refine hK _ _ _ ?_
      clear hK K
      try simp only [go_sem, List.map_cons, List.map_nil, ↓reduceIte, Nat.reduceEqDiff, Nat.reduceLT, Nat.reduceSub, Nat.reduceAdd, Nat.reduceMul, implies_true, true_and, and_true, cond_true, cond_false, Nat.add_assoc]
      refine hK3 _ _ _ ?_
      first | clear hK3 K3 | skip
      refine awp_reg zs [6, 38] fun K hK => ?_  -- region 6
      try simp only [go_sem, List.map_cons, List.map_nil, ↓reduceIte, Nat.reduceEqDiff, Nat.reduceLT, Nat.reduceSub, Nat.reduceAdd, Nat.reduceMul, implies_true, true_and, and_true, cond_true, cond_false, Nat.add_assoc]
      iterate 14 (first | (refine And.intro ?_ ?_; · first | omega | assumption | (simp; done) | (intros; simp_all; done) | decide) | skip)
      refine hK _ _ _ ?_
      clear hK K
      refine awp_ret ?_
      try simp only [go_sem, List.map_cons, List.map_nil, ↓reduceIte, Nat.reduceEqDiff, Nat.reduceLT, Nat.reduceSub, Nat.reduceAdd, Nat.reduceMul, implies_true, true_and, and_true, cond_true, cond_false, Nat.add_assoc]
      refine ⟨_, rfl, ?_, ?_⟩
      · intro k hk; have h0 : k ≠ n := by omega
        have h1 : ∀ j, k ≠ n + j := fun j => by omega
        simp [Heap.put, h0, h1]
      · simp only [oneE, h1, h2, if_true, if_false, entAV, Int.reduceEq, Nat.reduceEqDiff]
        refine Frz.agg ?_
        repeat' (first | exact FrzL.nil | refine FrzL.cons ?_ ?_ | exact Frz.nilsl | exact Frz.kl (a := .sl 1 [.int .u8 114]) ⟨trivial, trivial⟩ | exact Frz.kl (a := .sl 1 [.int .u8 113]) ⟨trivial, trivial⟩ | exact Frz.kl (a := .sl 1 [.int .u8 118]) ⟨trivial, trivial⟩ | exact Frz.kl trivial | (exfalso; omega))
    · skip
      have h2 : kind ≠ 5 := by simpa using hb
      refine awp_skip ?_
      try simp only [go_sem, List.map_cons, List.map_nil, ↓reduceIte, Nat.reduceEqDiff, Nat.reduceLT, Nat.reduceSub, Nat.reduceAdd, Nat.reduceMul, implies_true, true_and, and_true, cond_true, cond_false, Nat.add_assoc]
      refine hK3 _ _ _ ?_
      first | clear hK3 K3 | skip
      refine awp_reg zs [6, 38] fun K hK => ?_  -- region 6
      try simp only [go_sem, List.map_cons, List.map_nil, ↓reduceIte, Nat.reduceEqDiff, Nat.reduceLT, Nat.reduceSub, Nat.reduceAdd, Nat.reduceMul, implies_true, true_and, and_true, cond_true, cond_false, Nat.add_assoc]
      iterate 14 (first | (refine And.intro ?_ ?_; · first | omega | assumption | (simp; done) | (intros; simp_all; done) | decide) | skip)
      refine hK _ _ _ ?_
      clear hK K
      refine awp_ret ?_
      try simp only [go_sem, List.map_cons, List.map_nil, ↓reduceIte, Nat.reduceEqDiff, Nat.reduceLT, Nat.reduceSub, Nat.reduceAdd, Nat.reduceMul, implies_true, true_and, and_true, cond_true, cond_false, Nat.add_assoc]
      refine ⟨_, rfl, ?_, ?_⟩
      · intro k hk; have h0 : k ≠ n := by omega
        have h1 : ∀ j, k ≠ n + j := fun j => by omega
        simp [Heap.put, h0, h1]
      · simp only [oneE, h1, h2, if_true, if_false, entAV, Int.reduceEq, Nat.reduceEqDiff]
        refine Frz.agg ?_
        repeat' (first | exact FrzL.nil | refine FrzL.cons ?_ ?_ | exact Frz.nilsl | exact Frz.kl (a := .sl 1 [.int .u8 114]) ⟨trivial, trivial⟩ | exact Frz.kl (a := .sl 1 [.int .u8 113]) ⟨trivial, trivial⟩ | exact Frz.kl (a := .sl 1 [.int .u8 118]) ⟨trivial, trivial⟩ | exact Frz.kl trivial | (exfalso; omega))

def familyE (max ttl : Int) : List Fml := [⟨[102], max, ttl⟩]
theorem c_law_family (max ttl : Int) (H : Heap) (n : Nat) : Ret Try.prog 39 [.int .i64 max, .int .i64 ttl] H n (schAV (familyE max ttl)) H n := by
  refine Ret.fin ?_
  refine acalls_of_awp Try.func39 rfl Try.ntmps39 (congrArg Array.toList Try.results39) (by simp) ?_
  simp only [go_sem]
  refine awp_reg zs [0, 1, 4, 24] fun K hK => ?_  -- region 0
  try simp only [go_sem, List.map_cons, List.map_nil, ↓reduceIte, Nat.reduceEqDiff, Nat.reduceLT, Nat.reduceSub, Nat.reduceAdd, Nat.reduceMul, implies_true, true_and, and_true, cond_true, cond_false]
  iterate 14 (first | (refine And.intro ?_ ?_; · first | omega | assumption | (simp; done) | (intros; simp_all; done) | decide) | skip)
  refine hK _ _ _ ?_
  clear hK K
  refine awp_reg zs [4, 24] fun K hK => ?_  -- region 1
  try simp only [go_sem, List.map_cons, List.map_nil, ↓reduceIte, Nat.reduceEqDiff, Nat.reduceLT, Nat.reduceSub, Nat.reduceAdd, Nat.reduceMul, implies_true, true_and, and_true, cond_true, cond_false]
  iterate 14 (first | (refine And.intro ?_ ?_; · first | exact ⟨rfl, by decide, by simp [AV.sz, AV.szs, AV.memOK]⟩ | omega | assumption | (simp; done) | (intros; simp_all; done) | decide) | skip)
  refine hK _ _ _ ?_
  clear hK K
  refine awp_ret ?_
  try simp only [go_sem, List.map_cons, List.map_nil, ↓reduceIte, Nat.reduceEqDiff, Nat.reduceLT, Nat.reduceSub, Nat.reduceAdd, Nat.reduceMul, implies_true, true_and, and_true, cond_true, cond_false]
  refine ⟨_, rfl, ?_, Frz.kl (show AV.kl n (schAV (familyE max ttl)) from kl_sch _ _)⟩
  · intro k hk; have h0 : k ≠ n := by omega
    simp [Heap.put, h0]

def l0 : List Ent := [oneE 1 5 3, oneE 1 9 1, oneE 3 7 4, oneE 1 7 2]
theorem vis0 : visE (familyE 2 10) 12 l0 = ([oneE 1 9 1], 0) := by decide +kernel
theorem squash0 : squashE (familyE 2 10) 12 false 0 l0 = ([oneE 1 9 1, oneE 2 7 4], 0) := by decide +kernel
theorem read0 : readE (familyE 2 10) 12 12 1 l0 = ([oneE 1 9 1], 0) := by decide +kernel
theorem top0 : topE (familyE 2 10) 12 l0 = (9, 0) := by decide +kernel

set_option maxHeartbeats 1600000 in
theorem c_law_started (H : Heap) (n : Nat) : Ret Try.prog 11 [] H n (.bool true) H n := by
  refine acalls_of_awp Try.func11 rfl Try.ntmps11 (congrArg Array.toList Try.results11) (by simp) ?_
  simp only [go_sem]
  refine awp_reg zs [] fun K hK => ?_  -- region 0
  try simp only [go_sem, List.map_cons, List.map_nil, ↓reduceIte, Nat.reduceEqDiff, Nat.reduceLT, Nat.reduceSub, Nat.reduceAdd, Nat.reduceMul, implies_true, true_and, and_true, cond_true, cond_false, vis0, squash0, read0, top0]
  iterate 14 (first | (refine And.intro ?_ ?_; · first | omega | assumption | (simp; done) | (intros; simp_all; done) | decide) | skip)
  refine hK _ _ _ ?_
  clear hK K
  refine awp_reg zs [1] fun K hK => ?_  -- region 1
  try simp only [go_sem, List.map_cons, List.map_nil, ↓reduceIte, Nat.reduceEqDiff, Nat.reduceLT, Nat.reduceSub, Nat.reduceAdd, Nat.reduceMul, implies_true, true_and, and_true, cond_true, cond_false, vis0, squash0, read0, top0]
  iterate 14 (first | (refine And.intro ?_ ?_; · first | exact ⟨rfl, by decide, by simp [AV.sz, AV.szs, AV.memOK]⟩ | omega | assumption | (simp; done) | (intros; simp_all; done) | decide) | skip)
  refine callK_use Try.func38 rfl rfl rfl ((c_law_one 1 5 3 _ _)) ?_
  try simp only [go_sem, List.map_cons, List.map_nil, ↓reduceIte, Nat.reduceEqDiff, Nat.reduceLT, Nat.reduceSub, Nat.reduceAdd, Nat.reduceMul, implies_true, true_and, and_true, cond_true, cond_false, vis0, squash0, read0, top0]
  iterate 14 (first | (refine And.intro ?_ ?_; · first | exact ⟨rfl, by decide, by simp [AV.sz, AV.szs, AV.memOK]⟩ | omega | assumption | (simp; done) | (intros; simp_all; done) | decide) | skip)
  refine callK_use Try.func38 rfl rfl rfl ((c_law_one 1 9 1 _ _)) ?_
  try simp only [go_sem, List.map_cons, List.map_nil, ↓reduceIte, Nat.reduceEqDiff, Nat.reduceLT, Nat.reduceSub, Nat.reduceAdd, Nat.reduceMul, implies_true, true_and, and_true, cond_true, cond_false, vis0, squash0, read0, top0]
  iterate 14 (first | (refine And.intro ?_ ?_; · first | exact ⟨rfl, by decide, by simp [AV.sz, AV.szs, AV.memOK]⟩ | omega | assumption | (simp; done) | (intros; simp_all; done) | decide) | skip)
  refine callK_use Try.func38 rfl rfl rfl ((c_law_one 3 7 4 _ _)) ?_
  try simp only [go_sem, List.map_cons, List.map_nil, ↓reduceIte, Nat.reduceEqDiff, Nat.reduceLT, Nat.reduceSub, Nat.reduceAdd, Nat.reduceMul, implies_true, true_and, and_true, cond_true, cond_false, vis0, squash0, read0, top0]
  iterate 14 (first | (refine And.intro ?_ ?_; · first | exact ⟨rfl, by decide, by simp [AV.sz, AV.szs, AV.memOK]⟩ | omega | assumption | (simp; done) | (intros; simp_all; done) | decide) | skip)
  refine callK_use Try.func38 rfl rfl rfl ((c_law_one 1 7 2 _ _)) ?_
  try simp only [go_sem, List.map_cons, List.map_nil, ↓reduceIte, Nat.reduceEqDiff, Nat.reduceLT, Nat.reduceSub, Nat.reduceAdd, Nat.reduceMul, implies_true, true_and, and_true, cond_true, cond_false, vis0, squash0, read0, top0]
  iterate 14 (first | (refine And.intro ?_ ?_; · first | exact ⟨rfl, by decide, by simp [AV.sz, AV.szs, AV.memOK]⟩ | omega | assumption | (simp; done) | (intros; simp_all; done) | decide) | skip)
  refine hK _ _ _ ?_
  clear hK K
  refine awp_reg zs [1, 2, 3] fun K hK => ?_  -- region 2
  try simp only [go_sem, List.map_cons, List.map_nil, ↓reduceIte, Nat.reduceEqDiff, Nat.reduceLT, Nat.reduceSub, Nat.reduceAdd, Nat.reduceMul, implies_true, true_and, and_true, cond_true, cond_false, vis0, squash0, read0, top0]
  iterate 14 (first | (refine And.intro ?_ ?_; · first | omega | assumption | (simp; done) | (intros; simp_all; done) | decide) | skip)
  refine callK_use Try.func39 rfl rfl rfl ((c_law_family 2 10 _ _)) ?_
  try simp only [go_sem, List.map_cons, List.map_nil, ↓reduceIte, Nat.reduceEqDiff, Nat.reduceLT, Nat.reduceSub, Nat.reduceAdd, Nat.reduceMul, implies_true, true_and, and_true, cond_true, cond_false, vis0, squash0, read0, top0]
  iterate 14 (first | (refine And.intro ?_ ?_; · first | omega | assumption | (simp; done) | (intros; simp_all; done) | decide) | skip)
  refine callK_use Try.func19 rfl rfl rfl ((c_retain_Vis (familyE 2 10) 12 l0 (by decide) _ _)) ?_
  try simp only [go_sem, List.map_cons, List.map_nil, ↓reduceIte, Nat.reduceEqDiff, Nat.reduceLT, Nat.reduceSub, Nat.reduceAdd, Nat.reduceMul, implies_true, true_and, and_true, cond_true, cond_false, vis0, squash0, read0, top0]
  iterate 14 (first | (refine And.intro ?_ ?_; · first | omega | assumption | (simp; done) | (intros; simp_all; done) | decide) | skip)
  refine hK _ _ _ ?_
  clear hK K
  refine awp_reg zs [1, 2, 3, 4, 5] fun K hK => ?_  -- region 3
  try simp only [go_sem, List.map_cons, List.map_nil, ↓reduceIte, Nat.reduceEqDiff, Nat.reduceLT, Nat.reduceSub, Nat.reduceAdd, Nat.reduceMul, implies_true, true_and, and_true, cond_true, cond_false, vis0, squash0, read0, top0]
  iterate 14 (first | (refine And.intro ?_ ?_; · first | omega | assumption | (simp; done) | (intros; simp_all; done) | decide) | skip)
  refine callK_use Try.func39 rfl rfl rfl ((c_law_family 2 10 _ _)) ?_
  try simp only [go_sem, List.map_cons, List.map_nil, ↓reduceIte, Nat.reduceEqDiff, Nat.reduceLT, Nat.reduceSub, Nat.reduceAdd, Nat.reduceMul, implies_true, true_and, and_true, cond_true, cond_false, vis0, squash0, read0, top0]
  iterate 14 (first | (refine And.intro ?_ ?_; · first | omega | assumption | (simp; done) | (intros; simp_all; done) | decide) | skip)
  refine callK_use Try.func15 rfl rfl rfl ((c_retain_Squash (familyE 2 10) 12 0 false l0 (by decide) _ _)) ?_
  try simp only [go_sem, List.map_cons, List.map_nil, ↓reduceIte, Nat.reduceEqDiff, Nat.reduceLT, Nat.reduceSub, Nat.reduceAdd, Nat.reduceMul, implies_true, true_and, and_true, cond_true, cond_false, vis0, squash0, read0, top0]
  iterate 14 (first | (refine And.intro ?_ ?_; · first | omega | assumption | (simp; done) | (intros; simp_all; done) | decide) | skip)
  refine hK _ _ _ ?_
  clear hK K
  refine awp_reg zs [1, 2, 3, 4, 5, 6, 7] fun K hK => ?_  -- region 4
  try simp only [go_sem, List.map_cons, List.map_nil, ↓reduceIte, Nat.reduceEqDiff, Nat.reduceLT, Nat.reduceSub, Nat.reduceAdd, Nat.reduceMul, implies_true, true_and, and_true, cond_true, cond_false, vis0, squash0, read0, top0]
  iterate 14 (first | (refine And.intro ?_ ?_; · first | omega | assumption | (simp; done) | (intros; simp_all; done) | decide) | skip)
  refine callK_use Try.func39 rfl rfl rfl ((c_law_family 2 10 _ _)) ?_
  try simp only [go_sem, List.map_cons, List.map_nil, ↓reduceIte, Nat.reduceEqDiff, Nat.reduceLT, Nat.reduceSub, Nat.reduceAdd, Nat.reduceMul, implies_true, true_and, and_true, cond_true, cond_false, vis0, squash0, read0, top0]
  iterate 14 (first | (refine And.intro ?_ ?_; · first | omega | assumption | (simp; done) | (intros; simp_all; done) | decide) | skip)
  refine callK_use Try.func24 rfl rfl rfl ((c_retain_Read (familyE 2 10) 12 12 1 l0 (by decide) _ _)) ?_
  try simp only [go_sem, List.map_cons, List.map_nil, ↓reduceIte, Nat.reduceEqDiff, Nat.reduceLT, Nat.reduceSub, Nat.reduceAdd, Nat.reduceMul, implies_true, true_and, and_true, cond_true, cond_false, vis0, squash0, read0, top0]
  iterate 14 (first | (refine And.intro ?_ ?_; · first | omega | assumption | (simp; done) | (intros; simp_all; done) | decide) | skip)
  refine hK _ _ _ ?_
  clear hK K
  refine awp_reg zs [2, 3, 4, 5, 6, 7, 8, 9] fun K hK => ?_  -- region 5
  try simp only [go_sem, List.map_cons, List.map_nil, ↓reduceIte, Nat.reduceEqDiff, Nat.reduceLT, Nat.reduceSub, Nat.reduceAdd, Nat.reduceMul, implies_true, true_and, and_true, cond_true, cond_false, vis0, squash0, read0, top0]
  iterate 14 (first | (refine And.intro ?_ ?_; · first | omega | assumption | (simp; done) | (intros; simp_all; done) | decide) | skip)
  refine callK_use Try.func39 rfl rfl rfl ((c_law_family 2 10 _ _)) ?_
  try simp only [go_sem, List.map_cons, List.map_nil, ↓reduceIte, Nat.reduceEqDiff, Nat.reduceLT, Nat.reduceSub, Nat.reduceAdd, Nat.reduceMul, implies_true, true_and, and_true, cond_true, cond_false, vis0, squash0, read0, top0]
  iterate 14 (first | (refine And.intro ?_ ?_; · first | omega | assumption | (simp; done) | (intros; simp_all; done) | decide) | skip)
  refine callK_use Try.func40 rfl rfl rfl ((c_retain_Top (familyE 2 10) 12 l0 (by decide) _ _)) ?_
  try simp only [go_sem, List.map_cons, List.map_nil, ↓reduceIte, Nat.reduceEqDiff, Nat.reduceLT, Nat.reduceSub, Nat.reduceAdd, Nat.reduceMul, implies_true, true_and, and_true, cond_true, cond_false, vis0, squash0, read0, top0]
  iterate 14 (first | (refine And.intro ?_ ?_; · first | omega | assumption | (simp; done) | (intros; simp_all; done) | decide) | skip)
  refine hK _ _ _ ?_
  clear hK K
  refine awp_seq_k fun K1 hK1 => ?_
  refine awp_reg zs [2, 4, 6, 75] fun K hK => ?_  -- region 6
  try simp only [go_sem, List.map_cons, List.map_nil, ↓reduceIte, Nat.reduceEqDiff, Nat.reduceLT, Nat.reduceSub, Nat.reduceAdd, Nat.reduceMul, implies_true, true_and, and_true, cond_true, cond_false, vis0, squash0, read0, top0]
  iterate 14 (first | (refine And.intro ?_ ?_; · first | omega | assumption | (simp; done) | (intros; simp_all; done) | decide) | skip)
  refine callK_use Try.func16 rfl rfl rfl ((by apply c_law_num <;> first | assumption | omega)) ?_
  try simp only [go_sem, List.map_cons, List.map_nil, ↓reduceIte, Nat.reduceEqDiff, Nat.reduceLT, Nat.reduceSub, Nat.reduceAdd, Nat.reduceMul, implies_true, true_and, and_true, cond_true, cond_false, vis0, squash0, read0, top0]
  iterate 14 (first | (refine And.intro ?_ ?_; · first | omega | assumption | (simp; done) | (intros; simp_all; done) | decide) | skip)
  refine callG_use Try.func16 rfl rfl rfl (fun _ => (by apply c_law_num <;> first | assumption | omega)) ?_
  try simp only [go_sem, List.map_cons, List.map_nil, ↓reduceIte, Nat.reduceEqDiff, Nat.reduceLT, Nat.reduceSub, Nat.reduceAdd, Nat.reduceMul, implies_true, true_and, and_true, cond_true, cond_false, vis0, squash0, read0, top0]
  iterate 14 (first | (refine And.intro ?_ ?_; · first | omega | assumption | (simp; done) | (intros; simp_all; done) | decide) | skip)
  refine callG_use Try.func16 rfl rfl rfl (fun _ => (by apply c_law_num <;> first | assumption | omega)) ?_
  try simp only [go_sem, List.map_cons, List.map_nil, ↓reduceIte, Nat.reduceEqDiff, Nat.reduceLT, Nat.reduceSub, Nat.reduceAdd, Nat.reduceMul, implies_true, true_and, and_true, cond_true, cond_false, vis0, squash0, read0, top0]
  iterate 14 (first | (refine And.intro ?_ ?_; · first | omega | assumption | (simp; done) | (intros; simp_all; done) | decide) | skip)
  refine callG_use Try.func16 rfl rfl rfl (fun _ => (by apply c_law_num <;> first | assumption | omega)) ?_
  try simp only [go_sem, List.map_cons, List.map_nil, ↓reduceIte, Nat.reduceEqDiff, Nat.reduceLT, Nat.reduceSub, Nat.reduceAdd, Nat.reduceMul, implies_true, true_and, and_true, cond_true, cond_false, vis0, squash0, read0, top0]
  iterate 14 (first | (refine And.intro ?_ ?_; · first | omega | assumption | (simp; done) | (intros; simp_all; done) | decide) | skip)
  refine hK _ _ _ ?_
  clear hK K
  refine awp_cond (b := _) (by simp only [go_sem, List.map_cons, List.map_nil, ↓reduceIte, Nat.reduceEqDiff, Nat.reduceLT, Nat.reduceSub, Nat.reduceAdd, Nat.reduceMul, implies_true, true_and, and_true, cond_true, cond_false]; rfl) (fun hb => ?_) (fun hb => ?_)  -- t75
  · skip
    refine awp_reg zs [0] fun K hK => ?_  -- region 7
    try simp only [go_sem, List.map_cons, List.map_nil, ↓reduceIte, Nat.reduceEqDiff, Nat.reduceLT, Nat.reduceSub, Nat.reduceAdd, Nat.reduceMul, implies_true, true_and, and_true, cond_true, cond_false, vis0, squash0, read0, top0]
    iterate 14 (first | (refine And.intro ?_ ?_; · first | omega | assumption | (simp; done) | (intros; simp_all; done) | decide) | skip)
    refine hK _ _ _ ?_
    clear hK K
    refine awp_ret ?_
    try simp only [go_sem, List.map_cons, List.map_nil, ↓reduceIte, Nat.reduceEqDiff, Nat.reduceLT, Nat.reduceSub, Nat.reduceAdd, Nat.reduceMul, implies_true, true_and, and_true, cond_true, cond_false, vis0, squash0, read0, top0]
    first | (simp [sameE]; done) | exact absurd hb (by decide)
  · skip
    refine awp_skip ?_
    try simp only [go_sem, List.map_cons, List.map_nil, ↓reduceIte, Nat.reduceEqDiff, Nat.reduceLT, Nat.reduceSub, Nat.reduceAdd, Nat.reduceMul, implies_true, true_and, and_true, cond_true, cond_false, vis0, squash0, read0, top0]
    refine hK1 _ _ _ ?_
    first | clear hK1 K1 | skip
    refine awp_drw rfl zs [0] [.m, .q, .q, .c, .c, .m, .m, .q, .q, .c, .c, .q, .m, .m, .q, .q, .c, .c, .q, .m, .m, .q, .q, .c, .c, .q, .q] (by kernel_rfl) (fun _ _ _ _ _ h => h) fun K hK => ?_  -- region 8
    try simp only [go_sem, List.map_cons, List.map_nil, ↓reduceIte, Nat.reduceEqDiff, Nat.reduceLT, Nat.reduceSub, Nat.reduceAdd, Nat.reduceMul, implies_true, true_and, and_true, cond_true, cond_false, vis0, squash0, read0, top0]
    iterate 14 (first | (refine And.intro ?_ ?_; · first | omega | assumption | (simp; done) | (intros; simp_all; done) | decide) | skip)
    refine callQG_use Try.func38 rfl rfl rfl (fun _ n => (by apply c_law_one <;> first | assumption | omega)) ?_
    try simp only [go_sem, List.map_cons, List.map_nil, ↓reduceIte, Nat.reduceEqDiff, Nat.reduceLT, Nat.reduceSub, Nat.reduceAdd, Nat.reduceMul, implies_true, true_and, and_true, cond_true, cond_false, vis0, squash0, read0, top0]
    iterate 14 (first | (refine And.intro ?_ ?_; · first | omega | assumption | (simp; done) | (intros; simp_all; done) | decide) | skip)
    refine callQG_use Try.func41 rfl rfl rfl (fun _ n => (by apply c_ref3_Same <;> first | assumption | omega)) ?_
    try simp only [go_sem, List.map_cons, List.map_nil, ↓reduceIte, Nat.reduceEqDiff, Nat.reduceLT, Nat.reduceSub, Nat.reduceAdd, Nat.reduceMul, implies_true, true_and, and_true, cond_true, cond_false, vis0, squash0, read0, top0]
    iterate 14 (first | (refine And.intro ?_ ?_; · first | omega | assumption | (simp; done) | (intros; simp_all; done) | decide) | skip)
    refine callQG_use Try.func38 rfl rfl rfl (fun _ n => (by apply c_law_one <;> first | assumption | omega)) ?_
    try simp only [go_sem, List.map_cons, List.map_nil, ↓reduceIte, Nat.reduceEqDiff, Nat.reduceLT, Nat.reduceSub, Nat.reduceAdd, Nat.reduceMul, implies_true, true_and, and_true, cond_true, cond_false, vis0, squash0, read0, top0]
    iterate 14 (first | (refine And.intro ?_ ?_; · first | omega | assumption | (simp; done) | (intros; simp_all; done) | decide) | skip)
    refine callQG_use Try.func41 rfl rfl rfl (fun _ n => (by apply c_ref3_Same <;> first | assumption | omega)) ?_
    try simp only [go_sem, List.map_cons, List.map_nil, ↓reduceIte, Nat.reduceEqDiff, Nat.reduceLT, Nat.reduceSub, Nat.reduceAdd, Nat.reduceMul, implies_true, true_and, and_true, cond_true, cond_false, vis0, squash0, read0, top0]
    iterate 14 (first | (refine And.intro ?_ ?_; · first | omega | assumption | (simp; done) | (intros; simp_all; done) | decide) | skip)
    refine callQG_use Try.func38 rfl rfl rfl (fun _ n => (by apply c_law_one <;> first | assumption | omega)) ?_
    try simp only [go_sem, List.map_cons, List.map_nil, ↓reduceIte, Nat.reduceEqDiff, Nat.reduceLT, Nat.reduceSub, Nat.reduceAdd, Nat.reduceMul, implies_true, true_and, and_true, cond_true, cond_false, vis0, squash0, read0, top0]
    iterate 14 (first | (refine And.intro ?_ ?_; · first | omega | assumption | (simp; done) | (intros; simp_all; done) | decide) | skip)
    refine callQG_use Try.func41 rfl rfl rfl (fun _ n => (by apply c_ref3_Same <;> first | assumption | omega)) ?_
    try simp only [go_sem, List.map_cons, List.map_nil, ↓reduceIte, Nat.reduceEqDiff, Nat.reduceLT, Nat.reduceSub, Nat.reduceAdd, Nat.reduceMul, implies_true, true_and, and_true, cond_true, cond_false, vis0, squash0, read0, top0]
    iterate 14 (first | (refine And.intro ?_ ?_; · first | omega | assumption | (simp; done) | (intros; simp_all; done) | decide) | skip)
    refine callQG_use Try.func38 rfl rfl rfl (fun _ n => (by apply c_law_one <;> first | assumption | omega)) ?_
    try simp only [go_sem, List.map_cons, List.map_nil, ↓reduceIte, Nat.reduceEqDiff, Nat.reduceLT, Nat.reduceSub, Nat.reduceAdd, Nat.reduceMul, implies_true, true_and, and_true, cond_true, cond_false, vis0, squash0, read0, top0]
    iterate 14 (first | (refine And.intro ?_ ?_; · first | omega | assumption | (simp; done) | (intros; simp_all; done) | decide) | skip)
    refine callQG_use Try.func41 rfl rfl rfl (fun _ n => (by apply c_ref3_Same <;> first | assumption | omega)) ?_
    try simp only [go_sem, List.map_cons, List.map_nil, ↓reduceIte, Nat.reduceEqDiff, Nat.reduceLT, Nat.reduceSub, Nat.reduceAdd, Nat.reduceMul, implies_true, true_and, and_true, cond_true, cond_false, vis0, squash0, read0, top0]
    iterate 14 (first | (refine And.intro ?_ ?_; · first | omega | assumption | (simp; done) | (intros; simp_all; done) | decide) | skip)
    refine hK _ _ _ ?_
    clear hK K
    refine awp_ret ?_
    try simp only [go_sem, List.map_cons, List.map_nil, ↓reduceIte, Nat.reduceEqDiff, Nat.reduceLT, Nat.reduceSub, Nat.reduceAdd, Nat.reduceMul, implies_true, true_and, and_true, cond_true, cond_false, vis0, squash0, read0, top0]
    first | (simp [sameE]; done) | exact absurd hb (by decide)

def shownX (x e : Ent) : Bool := x.fam == e.fam && x.ts == e.ts && x.seq == e.seq && x.row == e.row && x.qual == e.qual && x.kind == e.kind
def shownB (l : List Ent) (e : Ent) : Bool := l.any fun x => shownX x e
theorem shownB_cons (x : Ent) (l : List Ent) (e : Ent) : shownB (x :: l) e = (shownX x e || shownB l e) := List.any_cons
theorem cond_and (a b : Bool) : (bif a then b else false) = (a && b) := by cases a <;> rfl

set_option maxRecDepth 100000 in
set_option maxHeartbeats 3200000 in
theorem c_law_shown (l : List Ent) (e : Ent) (hl : l.length < 4611686018427387904) (H : Heap) (n : Nat) : Ret Try.prog 21 [entsAV l, entAV e] H n (.bool (shownB l e)) H n := by
  refine Ret.fin ?_
  refine acalls_of_awp Try.func21 rfl Try.ntmps21 (congrArg Array.toList Try.results21) (by simp) ?_
  simp only [go_sem]
  refine awp_reg zs [0, 3] fun K hK => ?_  -- region 0
  try simp only [go_sem, List.map_cons, List.map_nil, ↓reduceIte, Nat.reduceEqDiff, Nat.reduceLT, Nat.reduceSub, Nat.reduceAdd, Nat.reduceMul, implies_true, true_and, and_true, cond_true, cond_false]
  iterate 14 (first | (refine And.intro ?_ ?_; · first | omega | assumption | (simp; done) | (intros; simp_all; done) | decide) | skip)
  refine hK _ _ _ ?_
  clear hK K
  refine awp_seq_k fun K1 hK1 => ?_
  refine awp_reg zs [0, 3, 5] fun K hK => ?_  -- region 1
  try simp only [go_sem, List.map_cons, List.map_nil, ↓reduceIte, Nat.reduceEqDiff, Nat.reduceLT, Nat.reduceSub, Nat.reduceAdd, Nat.reduceMul, implies_true, true_and, and_true, cond_true, cond_false]
  iterate 14 (first | (refine And.intro ?_ ?_; · first | omega | assumption | (simp; done) | (intros; simp_all; done) | decide) | skip)
  refine hK _ _ _ ?_
  clear hK K
  refine awp_block ?_
  -- loop 0: head [0, 3, 5]
  refine awp_loop (fun T' H' n' => ∃ i : Nat, i ≤ l.length ∧ T' = tl [(0, .sl 7 (l.map entAV)), (3, .loc n 0 0 0 []), (5, .int .i64 i)] ∧ H' = H.put n (some (.arr 0 7 [entAV e])) ∧ n' = n + 1 ∧ shownB (l.drop i) e = shownB l e) (fun T' _ _ => l.length - iv (T' 5)) ?_ ?_
  · skip
    exact ⟨0, Nat.zero_le _, rfl, rfl, rfl, rfl⟩
  intro T1 H1 n1
  rintro ⟨i, hi, rfl, rfl, rfl, hd⟩
  refine awp_seq_k fun K2 hK2 => ?_
  refine awp_reg zs [0, 3, 5, 9] fun K hK => ?_  -- region 2
  try simp only [go_sem, List.map_cons, List.map_nil, ↓reduceIte, Nat.reduceEqDiff, Nat.reduceLT, Nat.reduceSub, Nat.reduceAdd, Nat.reduceMul, implies_true, true_and, and_true, cond_true, cond_false]
  iterate 14 (first | (refine And.intro ?_ ?_; · first | omega | assumption | (simp; done) | (intros; simp_all; done) | decide) | skip)
  refine hK _ _ _ ?_
  clear hK K
  refine awp_cond (b := _) (by simp only [go_sem, List.map_cons, List.map_nil, ↓reduceIte, Nat.reduceEqDiff, Nat.reduceLT, Nat.reduceSub, Nat.reduceAdd, Nat.reduceMul, implies_true, true_and, and_true, cond_true, cond_false]; rfl) (fun hb => ?_) (fun hb => ?_)  -- t9
  · skip
    have hlt : i < l.length := by simpa using hb
    have hn1 : nth (l.map entAV) i = entAV (l.getD i default) := nth_map entAV l i hlt
    rw [drop_cons l i hlt, shownB_cons] at hd
    generalize l.getD i default = x at *
    refine awp_skip ?_
    try simp only [go_sem, List.map_cons, List.map_nil, ↓reduceIte, Nat.reduceEqDiff, Nat.reduceLT, Nat.reduceSub, Nat.reduceAdd, Nat.reduceMul, implies_true, true_and, and_true, cond_true, cond_false]
    refine hK2 _ _ _ ?_
    first | clear hK2 K2 | skip
    refine awp_seq_k fun K3 hK3 => ?_
    refine awp_block ?_
    refine awp_drw rfl zs [0, 3, 5, 69] [.m, .m, .q, .q, .q, .q, .q, .q, .m, .m, .m, .q, .q, .q, .q, .q, .q, .q, .m, .m, .m, .q, .q, .q, .q, .q, .q, .q, .m, .m, .m, .q, .q, .q, .q, .q, .c, .q, .m, .m, .m, .q, .q, .q, .q, .q, .c, .q, .m, .m, .m, .q, .q, .q, .q, .q, .q, .q] (by kernel_rfl) (fun _ _ _ _ _ h => h) fun K hK => ?_  -- region 4
    try simp only [go_sem, List.map_cons, List.map_nil, ↓reduceIte, Nat.reduceEqDiff, Nat.reduceLT, Nat.reduceSub, Nat.reduceAdd, Nat.reduceMul, implies_true, true_and, and_true, cond_true, cond_false, Int.toNat_natCast, hn1]
    iterate 14 (first | (refine And.intro ?_ ?_; · first | omega | assumption | (simp; done) | (intros; simp_all; done) | decide) | skip)
    refine callQG_use Try.func20 rfl rfl rfl (fun _ n => (c_ref3_Alike x.row e.row _ _)) ?_
    try simp only [go_sem, List.map_cons, List.map_nil, ↓reduceIte, Nat.reduceEqDiff, Nat.reduceLT, Nat.reduceSub, Nat.reduceAdd, Nat.reduceMul, implies_true, true_and, and_true, cond_true, cond_false, Int.toNat_natCast, hn1]
    iterate 14 (first | (refine And.intro ?_ ?_; · first | omega | assumption | (simp; done) | (intros; simp_all; done) | decide) | skip)
    refine callQG_use Try.func20 rfl rfl rfl (fun _ n => (c_ref3_Alike x.qual e.qual _ _)) ?_
    try simp only [go_sem, List.map_cons, List.map_nil, ↓reduceIte, Nat.reduceEqDiff, Nat.reduceLT, Nat.reduceSub, Nat.reduceAdd, Nat.reduceMul, implies_true, true_and, and_true, cond_true, cond_false, Int.toNat_natCast, hn1]
    iterate 14 (first | (refine And.intro ?_ ?_; · first | omega | assumption | (simp; done) | (intros; simp_all; done) | decide) | skip)
    refine hK _ _ _ ?_
    clear hK K
    refine awp_cond (b := _) (by simp only [go_sem, List.map_cons, List.map_nil, ↓reduceIte, Nat.reduceEqDiff, Nat.reduceLT, Nat.reduceSub, Nat.reduceAdd, Nat.reduceMul, implies_true, true_and, and_true, cond_true, cond_false]; rfl) (fun hb => ?_) (fun hb => ?_)  -- t69
    · skip
      have hx : shownX x e = true := by simp only [cond_and] at hb; exact hb
      refine awp_reg zs [4] fun K hK => ?_  -- region 5
      try simp only [go_sem, List.map_cons, List.map_nil, ↓reduceIte, Nat.reduceEqDiff, Nat.reduceLT, Nat.reduceSub, Nat.reduceAdd, Nat.reduceMul, implies_true, true_and, and_true, cond_true, cond_false]
      iterate 14 (first | (refine And.intro ?_ ?_; · first | omega | assumption | (simp; done) | (intros; simp_all; done) | decide) | skip)
      refine hK _ _ _ ?_
      clear hK K
      refine awp_ret ?_
      try simp only [go_sem, List.map_cons, List.map_nil, ↓reduceIte, Nat.reduceEqDiff, Nat.reduceLT, Nat.reduceSub, Nat.reduceAdd, Nat.reduceMul, implies_true, true_and, and_true, cond_true, cond_false]
      refine ⟨_, rfl, ?_, Frz.eq ?_ trivial⟩
      · intro k hk; have h0 : k ≠ n := by omega
        simp [Heap.put, h0]
      · first | (rw [← hd, hx]; rfl) | (rw [← hd, hge]; simp [shownB])
    · skip
      have hx : shownX x e = false := by simp only [cond_and] at hb; exact hb
      refine awp_skip ?_
      try simp only [go_sem, List.map_cons, List.map_nil, ↓reduceIte, Nat.reduceEqDiff, Nat.reduceLT, Nat.reduceSub, Nat.reduceAdd, Nat.reduceMul, implies_true, true_and, and_true, cond_true, cond_false]
      refine hK3 _ _ _ ?_
      first | clear hK3 K3 | skip
      refine awp_reg1 zs [0, 3, 5] fun K hK => ?_  -- region 3
      try simp only [go_sem, List.map_cons, List.map_nil, ↓reduceIte, Nat.reduceEqDiff, Nat.reduceLT, Nat.reduceSub, Nat.reduceAdd, Nat.reduceMul, implies_true, true_and, and_true, cond_true, cond_false]
      iterate 14 (first | (refine And.intro ?_ ?_; · first | omega | assumption | (simp; done) | (intros; simp_all; done) | decide) | skip)
      refine hK _ _ _ ?_
      clear hK K
      try simp only [go_sem, List.map_cons, List.map_nil, ↓reduceIte, Nat.reduceEqDiff, Nat.reduceLT, Nat.reduceSub, Nat.reduceAdd, Nat.reduceMul, implies_true, true_and, and_true, cond_true, cond_false]
      refine ⟨⟨i + 1, by omega, by rw [w1 (by omega)], by rw [← hd, hx]; rfl⟩, by rw [w1 (by omega)]; simp; omega⟩
  · skip
    have hge : i = l.length := by simp at hb; omega
    refine awp_exit ?_
    try simp only [go_sem, List.map_cons, List.map_nil, ↓reduceIte, Nat.reduceEqDiff, Nat.reduceLT, Nat.reduceSub, Nat.reduceAdd, Nat.reduceMul, implies_true, true_and, and_true, cond_true, cond_false]
    refine hK1 _ _ _ ?_
    first | clear hK1 K1 | skip
    refine awp_reg zs [4] fun K hK => ?_  -- region 6
    try simp only [go_sem, List.map_cons, List.map_nil, ↓reduceIte, Nat.reduceEqDiff, Nat.reduceLT, Nat.reduceSub, Nat.reduceAdd, Nat.reduceMul, implies_true, true_and, and_true, cond_true, cond_false]
    iterate 14 (first | (refine And.intro ?_ ?_; · first | omega | assumption | (simp; done) | (intros; simp_all; done) | decide) | skip)
    refine hK _ _ _ ?_
    clear hK K
    refine awp_ret ?_
    try simp only [go_sem, List.map_cons, List.map_nil, ↓reduceIte, Nat.reduceEqDiff, Nat.reduceLT, Nat.reduceSub, Nat.reduceAdd, Nat.reduceMul, implies_true, true_and, and_true, cond_true, cond_false]
    refine ⟨_, rfl, ?_, Frz.eq ?_ trivial⟩
    · intro k hk; have h0 : k ≠ n := by omega
      simp [Heap.put, h0]
    · first | (rw [← hd, hx]; rfl) | (rw [← hd, hge]; simp [shownB])


end Go.Proofs.Ytijhkfhflpmajaa
namespace Go.Proofs.Ytijhkfhflpmajaa
open Go Go.Sx Go.Rt Go.Proofs

theorem cond_or (a b : Bool) : (bif a then true else b) = (a || b) := by cases a <;> rfl

def againB (s : List Fml) (clock low : Int) (l : List Ent) : Bool :=
  let a := squashE s clock false low l
  let b := squashE s clock true low l
  bif a.2 != b.2 then false
  else bif a.2 != 0 then decide (a.1.length = 0) && decide (b.1.length = 0)
  else
    let c := squashE s clock false low a.1
    let d := squashE s clock true low a.1
    let x := squashE s clock true low b.1
    c.2 == 0 && d.2 == 0 && x.2 == 0 && decide (c.1 = a.1) && decide (d.1 = b.1) && decide (x.1 = b.1)

set_option maxHeartbeats 1600000 in
theorem c_law_RetainAgain (s : List Fml) (clock low : Int) (l : List Ent) (hl : l.length ≤ 10000000) (H : Heap) (n : Nat) : Ret Try.prog 5 [schAV s, .int .i64 clock, .int .i64 low, entsAV l] H n (.bool (againB s clock low l)) H n := by
  have hla : (squashE s clock false low l).1.length ≤ 100000000 := by have := squashE_length s clock false low l; omega
  have hlb : (squashE s clock true low l).1.length ≤ 100000000 := by have := squashE_length s clock true low l; omega
  refine Ret.fin ?_
  refine acalls_of_awp Try.func5 rfl Try.ntmps5 (congrArg Array.toList Try.results5) (by simp) ?_
  simp only [go_sem]
  refine awp_reg zs [1, 2, 3, 4] fun K hK => ?_  -- region 0
  try simp only [go_sem, List.map_cons, List.map_nil, ↓reduceIte, Nat.reduceEqDiff, Nat.reduceLT, Nat.reduceSub, Nat.reduceAdd, Nat.reduceMul, implies_true, true_and, and_true, cond_true, cond_false]
  iterate 14 (first | (refine And.intro ?_ ?_; · first | omega | assumption | (simp; done) | (intros; simp_all; done) | decide) | skip)
  refine hK _ _ _ ?_
  clear hK K
  refine awp_reg zs [1, 2, 3, 4, 9] fun K hK => ?_  -- region 1
  try simp only [go_sem, List.map_cons, List.map_nil, ↓reduceIte, Nat.reduceEqDiff, Nat.reduceLT, Nat.reduceSub, Nat.reduceAdd, Nat.reduceMul, implies_true, true_and, and_true, cond_true, cond_false]
  iterate 14 (first | (refine And.intro ?_ ?_; · first | omega | assumption | (simp; done) | (intros; simp_all; done) | decide) | skip)
  refine callK_use Try.func11 rfl rfl rfl ((c_law_started _ _)) ?_
  try simp only [go_sem, List.map_cons, List.map_nil, ↓reduceIte, Nat.reduceEqDiff, Nat.reduceLT, Nat.reduceSub, Nat.reduceAdd, Nat.reduceMul, implies_true, true_and, and_true, cond_true, cond_false]
  iterate 14 (first | (refine And.intro ?_ ?_; · first | omega | assumption | (simp; done) | (intros; simp_all; done) | decide) | skip)
  refine hK _ _ _ ?_
  clear hK K
  refine awp_reg zs [1, 2, 3, 4, 9, 10, 11] fun K hK => ?_  -- region 2
  try simp only [go_sem, List.map_cons, List.map_nil, ↓reduceIte, Nat.reduceEqDiff, Nat.reduceLT, Nat.reduceSub, Nat.reduceAdd, Nat.reduceMul, implies_true, true_and, and_true, cond_true, cond_false]
  iterate 14 (first | (refine And.intro ?_ ?_; · first | omega | assumption | (simp; done) | (intros; simp_all; done) | decide) | skip)
  refine callK_use Try.func15 rfl rfl rfl ((c_retain_Squash s clock low false l (by omega) _ _)) ?_
  try simp only [go_sem, List.map_cons, List.map_nil, ↓reduceIte, Nat.reduceEqDiff, Nat.reduceLT, Nat.reduceSub, Nat.reduceAdd, Nat.reduceMul, implies_true, true_and, and_true, cond_true, cond_false]
  iterate 14 (first | (refine And.intro ?_ ?_; · first | omega | assumption | (simp; done) | (intros; simp_all; done) | decide) | skip)
  refine hK _ _ _ ?_
  clear hK K
  refine awp_reg zs [1, 2, 4, 9, 10, 11, 12, 13] fun K hK => ?_  -- region 3
  try simp only [go_sem, List.map_cons, List.map_nil, ↓reduceIte, Nat.reduceEqDiff, Nat.reduceLT, Nat.reduceSub, Nat.reduceAdd, Nat.reduceMul, implies_true, true_and, and_true, cond_true, cond_false]
  iterate 14 (first | (refine And.intro ?_ ?_; · first | omega | assumption | (simp; done) | (intros; simp_all; done) | decide) | skip)
  refine callK_use Try.func15 rfl rfl rfl ((c_retain_Squash s clock low true l (by omega) _ _)) ?_
  try simp only [go_sem, List.map_cons, List.map_nil, ↓reduceIte, Nat.reduceEqDiff, Nat.reduceLT, Nat.reduceSub, Nat.reduceAdd, Nat.reduceMul, implies_true, true_and, and_true, cond_true, cond_false]
  iterate 14 (first | (refine And.intro ?_ ?_; · first | omega | assumption | (simp; done) | (intros; simp_all; done) | decide) | skip)
  refine hK _ _ _ ?_
  clear hK K
  refine awp_seq_k fun K1 hK1 => ?_
  refine awp_reg zs [1, 2, 4, 10, 11, 12, 45] fun K hK => ?_  -- region 4
  try simp only [go_sem, List.map_cons, List.map_nil, ↓reduceIte, Nat.reduceEqDiff, Nat.reduceLT, Nat.reduceSub, Nat.reduceAdd, Nat.reduceMul, implies_true, true_and, and_true, cond_true, cond_false]
  iterate 14 (first | (refine And.intro ?_ ?_; · first | omega | assumption | (simp; done) | (intros; simp_all; done) | decide) | skip)
  refine callG_use Try.func16 rfl rfl rfl (fun _ => (by apply c_law_num <;> first | assumption | omega)) ?_
  try simp only [go_sem, List.map_cons, List.map_nil, ↓reduceIte, Nat.reduceEqDiff, Nat.reduceLT, Nat.reduceSub, Nat.reduceAdd, Nat.reduceMul, implies_true, true_and, and_true, cond_true, cond_false]
  iterate 14 (first | (refine And.intro ?_ ?_; · first | omega | assumption | (simp; done) | (intros; simp_all; done) | decide) | skip)
  refine callG_use Try.func16 rfl rfl rfl (fun _ => (by apply c_law_num <;> first | assumption | omega)) ?_
  try simp only [go_sem, List.map_cons, List.map_nil, ↓reduceIte, Nat.reduceEqDiff, Nat.reduceLT, Nat.reduceSub, Nat.reduceAdd, Nat.reduceMul, implies_true, true_and, and_true, cond_true, cond_false]
  iterate 14 (first | (refine And.intro ?_ ?_; · first | omega | assumption | (simp; done) | (intros; simp_all; done) | decide) | skip)
  refine hK _ _ _ ?_
  clear hK K
  refine awp_cond (b := _) (by simp only [go_sem, List.map_cons, List.map_nil, ↓reduceIte, Nat.reduceEqDiff, Nat.reduceLT, Nat.reduceSub, Nat.reduceAdd, Nat.reduceMul, implies_true, true_and, and_true, cond_true, cond_false]; rfl) (fun hb => ?_) (fun hb => ?_)  -- t45
  · skip
    have h1 : ((squashE s clock false low l).2 != (squashE s clock true low l).2) = true := hb
    refine awp_reg zs [8] fun K hK => ?_  -- region 5
    try simp only [go_sem, List.map_cons, List.map_nil, ↓reduceIte, Nat.reduceEqDiff, Nat.reduceLT, Nat.reduceSub, Nat.reduceAdd, Nat.reduceMul, implies_true, true_and, and_true, cond_true, cond_false]
    iterate 14 (first | (refine And.intro ?_ ?_; · first | omega | assumption | (simp; done) | (intros; simp_all; done) | decide) | skip)
    refine hK _ _ _ ?_
    clear hK K
    refine awp_ret ?_
    try simp only [go_sem, List.map_cons, List.map_nil, ↓reduceIte, Nat.reduceEqDiff, Nat.reduceLT, Nat.reduceSub, Nat.reduceAdd, Nat.reduceMul, implies_true, true_and, and_true, cond_true, cond_false]
    refine ⟨_, rfl, ?_, Frz.eq ?_ trivial⟩
    · intro k hk; have h0 : k ≠ n := by omega
      simp [Heap.put, h0]
    · congr 1
      first
      | (simp only [againB, h1, cond_true]; done)
      | (simp only [againB, h1, hb, cond_true, cond_false, cond_and, List.length_map]; rw [Bool.eq_iff_iff]; simp; done)
      | (simp only [againB, h1, hb, cond_true, cond_false, cond_and]; done)
  · skip
    have h1 : ((squashE s clock false low l).2 != (squashE s clock true low l).2) = false := hb
    refine awp_skip ?_
    try simp only [go_sem, List.map_cons, List.map_nil, ↓reduceIte, Nat.reduceEqDiff, Nat.reduceLT, Nat.reduceSub, Nat.reduceAdd, Nat.reduceMul, implies_true, true_and, and_true, cond_true, cond_false]
    refine hK1 _ _ _ ?_
    first | clear hK1 K1 | skip
    refine awp_seq_k fun K2 hK2 => ?_
    refine awp_reg zs [1, 2, 4, 10, 12, 48] fun K hK => ?_  -- region 6
    try simp only [go_sem, List.map_cons, List.map_nil, ↓reduceIte, Nat.reduceEqDiff, Nat.reduceLT, Nat.reduceSub, Nat.reduceAdd, Nat.reduceMul, implies_true, true_and, and_true, cond_true, cond_false]
    iterate 14 (first | (refine And.intro ?_ ?_; · first | omega | assumption | (simp; done) | (intros; simp_all; done) | decide) | skip)
    refine callK_use Try.func16 rfl rfl rfl ((by apply c_law_num <;> first | assumption | omega)) ?_
    try simp only [go_sem, List.map_cons, List.map_nil, ↓reduceIte, Nat.reduceEqDiff, Nat.reduceLT, Nat.reduceSub, Nat.reduceAdd, Nat.reduceMul, implies_true, true_and, and_true, cond_true, cond_false]
    iterate 14 (first | (refine And.intro ?_ ?_; · first | omega | assumption | (simp; done) | (intros; simp_all; done) | decide) | skip)
    refine hK _ _ _ ?_
    clear hK K
    refine awp_cond (b := _) (by simp only [go_sem, List.map_cons, List.map_nil, ↓reduceIte, Nat.reduceEqDiff, Nat.reduceLT, Nat.reduceSub, Nat.reduceAdd, Nat.reduceMul, implies_true, true_and, and_true, cond_true, cond_false]; rfl) (fun hb => ?_) (fun hb => ?_)  -- t48
    · skip
      refine awp_reg zs [8] fun K hK => ?_  -- region 7
      try simp only [go_sem, List.map_cons, List.map_nil, ↓reduceIte, Nat.reduceEqDiff, Nat.reduceLT, Nat.reduceSub, Nat.reduceAdd, Nat.reduceMul, implies_true, true_and, and_true, cond_true, cond_false]
      iterate 14 (first | (refine And.intro ?_ ?_; · first | omega | assumption | (simp; done) | (intros; simp_all; done) | decide) | skip)
      refine hK _ _ _ ?_
      clear hK K
      refine awp_ret ?_
      try simp only [go_sem, List.map_cons, List.map_nil, ↓reduceIte, Nat.reduceEqDiff, Nat.reduceLT, Nat.reduceSub, Nat.reduceAdd, Nat.reduceMul, implies_true, true_and, and_true, cond_true, cond_false]
      refine ⟨_, rfl, ?_, Frz.eq ?_ trivial⟩
      · intro k hk; have h0 : k ≠ n := by omega
        simp [Heap.put, h0]
      · congr 1
        first
        | (simp only [againB, h1, cond_true]; done)
        | (simp only [againB, h1, hb, cond_true, cond_false, cond_and, List.length_map]; rw [Bool.eq_iff_iff]; simp; done)
        | (simp only [againB, h1, hb, cond_true, cond_false, cond_and]; done)
    · skip
      refine awp_skip ?_
      try simp only [go_sem, List.map_cons, List.map_nil, ↓reduceIte, Nat.reduceEqDiff, Nat.reduceLT, Nat.reduceSub, Nat.reduceAdd, Nat.reduceMul, implies_true, true_and, and_true, cond_true, cond_false]
      refine hK2 _ _ _ ?_
      first | clear hK2 K2 | skip
      refine awp_reg zs [1, 2, 4, 10, 12, 14, 15] fun K hK => ?_  -- region 8
      try simp only [go_sem, List.map_cons, List.map_nil, ↓reduceIte, Nat.reduceEqDiff, Nat.reduceLT, Nat.reduceSub, Nat.reduceAdd, Nat.reduceMul, implies_true, true_and, and_true, cond_true, cond_false]
      iterate 14 (first | (refine And.intro ?_ ?_; · first | omega | assumption | (simp; done) | (intros; simp_all; done) | decide) | skip)
      refine callK_use Try.func15 rfl rfl rfl ((c_retain_Squash s clock low false (squashE s clock false low l).1 hla _ _)) ?_
      try simp only [go_sem, List.map_cons, List.map_nil, ↓reduceIte, Nat.reduceEqDiff, Nat.reduceLT, Nat.reduceSub, Nat.reduceAdd, Nat.reduceMul, implies_true, true_and, and_true, cond_true, cond_false]
      iterate 14 (first | (refine And.intro ?_ ?_; · first | omega | assumption | (simp; done) | (intros; simp_all; done) | decide) | skip)
      refine hK _ _ _ ?_
      clear hK K
      refine awp_reg zs [1, 2, 4, 10, 12, 14, 15, 16, 17] fun K hK => ?_  -- region 9
      try simp only [go_sem, List.map_cons, List.map_nil, ↓reduceIte, Nat.reduceEqDiff, Nat.reduceLT, Nat.reduceSub, Nat.reduceAdd, Nat.reduceMul, implies_true, true_and, and_true, cond_true, cond_false]
      iterate 14 (first | (refine And.intro ?_ ?_; · first | omega | assumption | (simp; done) | (intros; simp_all; done) | decide) | skip)
      refine callK_use Try.func15 rfl rfl rfl ((c_retain_Squash s clock low true (squashE s clock false low l).1 hla _ _)) ?_
      try simp only [go_sem, List.map_cons, List.map_nil, ↓reduceIte, Nat.reduceEqDiff, Nat.reduceLT, Nat.reduceSub, Nat.reduceAdd, Nat.reduceMul, implies_true, true_and, and_true, cond_true, cond_false]
      iterate 14 (first | (refine And.intro ?_ ?_; · first | omega | assumption | (simp; done) | (intros; simp_all; done) | decide) | skip)
      refine hK _ _ _ ?_
      clear hK K
      refine awp_reg zs [10, 12, 14, 15, 16, 17, 18, 19] fun K hK => ?_  -- region 10
      try simp only [go_sem, List.map_cons, List.map_nil, ↓reduceIte, Nat.reduceEqDiff, Nat.reduceLT, Nat.reduceSub, Nat.reduceAdd, Nat.reduceMul, implies_true, true_and, and_true, cond_true, cond_false]
      iterate 14 (first | (refine And.intro ?_ ?_; · first | omega | assumption | (simp; done) | (intros; simp_all; done) | decide) | skip)
      refine callK_use Try.func15 rfl rfl rfl ((c_retain_Squash s clock low true (squashE s clock true low l).1 hlb _ _)) ?_
      try simp only [go_sem, List.map_cons, List.map_nil, ↓reduceIte, Nat.reduceEqDiff, Nat.reduceLT, Nat.reduceSub, Nat.reduceAdd, Nat.reduceMul, implies_true, true_and, and_true, cond_true, cond_false]
      iterate 14 (first | (refine And.intro ?_ ?_; · first | omega | assumption | (simp; done) | (intros; simp_all; done) | decide) | skip)
      refine hK _ _ _ ?_
      clear hK K
      refine awp_reg zs [8] fun K hK => ?_  -- region 11
      try simp only [go_sem, List.map_cons, List.map_nil, ↓reduceIte, Nat.reduceEqDiff, Nat.reduceLT, Nat.reduceSub, Nat.reduceAdd, Nat.reduceMul, implies_true, true_and, and_true, cond_true, cond_false]
      iterate 14 (first | (refine And.intro ?_ ?_; · first | omega | assumption | (simp; done) | (intros; simp_all; done) | decide) | skip)
      refine callK_use Try.func16 rfl rfl rfl ((by apply c_law_num <;> first | assumption | omega)) ?_
      try simp only [go_sem, List.map_cons, List.map_nil, ↓reduceIte, Nat.reduceEqDiff, Nat.reduceLT, Nat.reduceSub, Nat.reduceAdd, Nat.reduceMul, implies_true, true_and, and_true, cond_true, cond_false]
      iterate 14 (first | (refine And.intro ?_ ?_; · first | omega | assumption | (simp; done) | (intros; simp_all; done) | decide) | skip)
      refine callG_use Try.func16 rfl rfl rfl (fun _ => (by apply c_law_num <;> first | assumption | omega)) ?_
      try simp only [go_sem, List.map_cons, List.map_nil, ↓reduceIte, Nat.reduceEqDiff, Nat.reduceLT, Nat.reduceSub, Nat.reduceAdd, Nat.reduceMul, implies_true, true_and, and_true, cond_true, cond_false]
      iterate 14 (first | (refine And.intro ?_ ?_; · first | omega | assumption | (simp; done) | (intros; simp_all; done) | decide) | skip)
      refine callG_use Try.func16 rfl rfl rfl (fun _ => (by apply c_law_num <;> first | assumption | omega)) ?_
      try simp only [go_sem, List.map_cons, List.map_nil, ↓reduceIte, Nat.reduceEqDiff, Nat.reduceLT, Nat.reduceSub, Nat.reduceAdd, Nat.reduceMul, implies_true, true_and, and_true, cond_true, cond_false]
      iterate 14 (first | (refine And.intro ?_ ?_; · first | omega | assumption | (simp; done) | (intros; simp_all; done) | decide) | skip)
      refine callG_use Try.func18 rfl rfl rfl (fun _ => (c_ref3_SameAll (squashE s clock false low (squashE s clock false low l).1).1 (squashE s clock false low l).1 (by have := squashE_length s clock false low (squashE s clock false low l).1; omega) _ _)) ?_
      try simp only [go_sem, List.map_cons, List.map_nil, ↓reduceIte, Nat.reduceEqDiff, Nat.reduceLT, Nat.reduceSub, Nat.reduceAdd, Nat.reduceMul, implies_true, true_and, and_true, cond_true, cond_false]
      iterate 14 (first | (refine And.intro ?_ ?_; · first | omega | assumption | (simp; done) | (intros; simp_all; done) | decide) | skip)
      refine callG_use Try.func18 rfl rfl rfl (fun _ => (c_ref3_SameAll (squashE s clock true low (squashE s clock false low l).1).1 (squashE s clock true low l).1 (by have := squashE_length s clock true low (squashE s clock false low l).1; omega) _ _)) ?_
      try simp only [go_sem, List.map_cons, List.map_nil, ↓reduceIte, Nat.reduceEqDiff, Nat.reduceLT, Nat.reduceSub, Nat.reduceAdd, Nat.reduceMul, implies_true, true_and, and_true, cond_true, cond_false]
      iterate 14 (first | (refine And.intro ?_ ?_; · first | omega | assumption | (simp; done) | (intros; simp_all; done) | decide) | skip)
      refine callG_use Try.func18 rfl rfl rfl (fun _ => (c_ref3_SameAll (squashE s clock true low (squashE s clock true low l).1).1 (squashE s clock true low l).1 (by have := squashE_length s clock true low (squashE s clock true low l).1; omega) _ _)) ?_
      try simp only [go_sem, List.map_cons, List.map_nil, ↓reduceIte, Nat.reduceEqDiff, Nat.reduceLT, Nat.reduceSub, Nat.reduceAdd, Nat.reduceMul, implies_true, true_and, and_true, cond_true, cond_false]
      iterate 14 (first | (refine And.intro ?_ ?_; · first | omega | assumption | (simp; done) | (intros; simp_all; done) | decide) | skip)
      refine hK _ _ _ ?_
      clear hK K
      refine awp_ret ?_
      try simp only [go_sem, List.map_cons, List.map_nil, ↓reduceIte, Nat.reduceEqDiff, Nat.reduceLT, Nat.reduceSub, Nat.reduceAdd, Nat.reduceMul, implies_true, true_and, and_true, cond_true, cond_false]
      refine ⟨_, rfl, ?_, Frz.eq ?_ trivial⟩
      · intro k hk; have h0 : k ≠ n := by omega
        simp [Heap.put, h0]
      · congr 1
        first
        | (simp only [againB, h1, cond_true]; done)
        | (simp only [againB, h1, hb, cond_true, cond_false, cond_and, List.length_map]; rw [Bool.eq_iff_iff]; simp; done)
        | (simp only [againB, h1, hb, cond_true, cond_false, cond_and]; done)


end Go.Proofs.Ytijhkfhflpmajaa
namespace Go.Proofs.Ytijhkfhflpmajaa
open Go Go.Sx Go.Rt

theorem badsE_all {s : List Fml} : ∀ {l : List Ent}, (∀ e ∈ l, checkedE s e = 0) → badsE s l = 0
  | [], _ => rfl
  | e :: l, h => by
    rw [badsE, if_neg (by simp [h e (by simp)])]
    exact badsE_all fun x hx => h x (by simp [hx])
/-- what has been checked -/
structure Chk (e : Ent) : Prop where
  row : bout e.row.length 1 256 = false
  fam : bout e.fam 0 7 = false
  q : badQ e = false
  ts : bout e.ts 1 1099511627776 = false
  seq : bout e.seq 0 17592186044431 = false
  kind : bout e.kind 1 5 = false
  v : badV e = false
theorem chk_iff (e : Ent) : checkE e = 0 ↔ Chk e := by
  constructor
  · intro h
    unfold checkE at h
    repeat' split at h
    all_goals first | (exact absurd h (by decide)) | skip
    rename_i h1 h2 h3 h4 h5 h6 h7
    exact ⟨by simpa using h1, by simpa using h2, by simpa using h3, by simpa using h4, by simpa using h5, by simpa using h6, by simpa using h7⟩
  · intro ⟨h1, h2, h3, h4, h5, h6, h7⟩
    unfold checkE
    simp [h1, h2, h3, h4, h5, h6, h7]
theorem chk_hsk {e : Ent} (h : Chk e) : Chk (hsk e) := by
  obtain ⟨h1, h2, h3, h4, h5, h6, h7⟩ := h
  refine ⟨h1, h2, ?_, h4, h5, rfl, rfl⟩
  unfold badQ at h3 ⊢
  by_cases hq : (256 : Int) < e.qual.length
  · simp [hq] at h3
  · simp [hsk, hq]
theorem checked_form {s : List Fml} {m : List Ent} {e : Ent} (h : checkedE s e = 0) : checkedE s (form m e) = 0 := by
  rcases form_cases m e with ⟨h1, _⟩ | ⟨h1, _⟩
  · rw [h1]; exact h
  · rw [h1]
    obtain ⟨h2, h3⟩ := checkedE_zero h
    have h4 := (chk_iff _).2 (chk_hsk ((chk_iff e).1 h2))
    unfold checkedE
    rw [h4]
    simp only [ne_eq, not_true_eq_false, if_false]
    rw [if_neg (by show ¬ (s.length : Int) ≤ e.fam; omega)]
theorem good_of {s : List Fml} {e : Ent} (h : checkedE s e = 0) : EGood e := by
  obtain ⟨h1, _⟩ := checkedE_zero h
  obtain ⟨g1, g2, g3, g4, g5, g6, g7⟩ := (chk_iff e).1 h1
  have g4 := bout_false g4
  refine ⟨by omega, fun h5 => ?_⟩
  unfold badQ at g3
  by_cases hq : (256 : Int) < e.qual.length
  · simp [hq] at g3
  · have hz : ¬ 0 < (e.qual.length : Int) := by
      intro h0; simp [hq, h5] at g3; exact absurd h0 (by simp [g3])
    exact List.length_eq_zero_iff.1 (by omega)

/-- what stands ready: in order, each checked -/
theorem prep_ok {s : List Fml} {clock : Int} {times : List Int} {k : Int} {l : List Ent} (h : (prepE s clock times k l).2 = 0) : InOrder (prepE s clock times k l).1 ∧ (∀ e ∈ (prepE s clock times k l).1, checkedE s e = 0) ∧ boundsE s clock times k = 0 ∧ ∀ e, e ∈ (prepE s clock times k l).1 ↔ e ∈ l := by
  obtain ⟨h1, h2, h3, h4, _⟩ := prepE_zero h
  refine ⟨?_, fun e he => (h4 e he).2, h1, ?_⟩
  · have hg : ∀ e ∈ (prepE s clock times k l).1, EGood e := fun e he => good_of (h4 e he).2
    rw [h3] at h hg ⊢
    unfold sortedE at h hg ⊢
    cases hd : ddE [] l with
    | none => rw [hd] at h; exact absurd h (by decide)
    | some d =>
      rw [hd] at hg
      have hs := (stabL_perm d).symm.pairwise (ddE_seq l [] d hd List.Pairwise.nil) fun h => Ne.symm h
      exact ⟨strict_of (stabL_srt d) hs, hs, hg⟩
  · intro e
    rw [h3] at h ⊢
    unfold sortedE at h ⊢
    cases hd : ddE [] l with
    | none => rw [hd] at h; exact absurd h (by decide)
    | some d =>
      show e ∈ stabL ltE d ↔ _
      rw [stabL_mem, ddE_mem l [] d hd]; simp
/-- what is in order and checked is ready as it stands -/
theorem prep_id {s : List Fml} {clock : Int} {times : List Int} {k : Int} {T : List Ent} (hb : boundsE s clock times k = 0) (hc : ∀ e ∈ T, checkedE s e = 0) (ho : InOrder T) : prepE s clock times k T = (T, 0) := by
  unfold prepE
  rw [if_neg (by simp [hb]), if_neg (by simp [badsE_all hc]), sortedE_id ho.srt ho.seq]

theorem squash_ok {s : List Fml} {clock low : Int} {major : Bool} {l : List Ent} (h : (prepE s clock [low] 1 l).2 = 0) : squashE s clock major low l = ((prepE s clock [low] 1 l).1.flatMap (keepD s clock major low (prepE s clock [low] 1 l).1), 0) := by
  unfold squashE
  rw [if_neg (by simp [h]), keptOf_eq _ _ _ _ _ (prep_ok h).1]

theorem againB_true (s : List Fml) (clock low : Int) (l : List Ent) : againB s clock low l = true := by
  unfold againB
  by_cases h : (prepE s clock [low] 1 l).2 = 0
  · obtain ⟨ho, hc, hb, _⟩ := prep_ok h
    simp only [squash_ok h, bne_self_eq_false, cond_false]
    generalize (prepE s clock [low] 1 l).1 = m at *
    have key : ∀ mj mj', (mj = true → mj' = true) → squashE s clock mj' low (m.flatMap (keepD s clock mj low m)) = (m.flatMap (keepD s clock mj' low m), 0) := by
      intro mj mj' hle
      have hT : InOrder (m.flatMap (keepD s clock mj low m)) := inOrder_T ho
      have hTc : ∀ e ∈ m.flatMap (keepD s clock mj low m), checkedE s e = 0 := fun e he => by
        obtain ⟨y, hy, _, rfl⟩ := mem_T.1 he
        exact checked_form (hc y hy)
      have hp := prep_id hb hTc hT
      rw [squash_ok (by rw [hp]), hp]
      simp only
      rw [again ho hle]
    rw [key false false (fun h => h), key false true (fun _ => rfl), key true true (fun h => h)]
    simp
  · have hsq : ∀ mj, squashE s clock mj low l = ([], (prepE s clock [low] 1 l).2) := fun mj => by unfold squashE; rw [if_pos h]
    simp only [hsq, bne_self_eq_false, cond_false]
    have : ((prepE s clock [low] 1 l).2 != 0) = true := by simpa using h
    rw [this]; rfl
end Go.Proofs.Ytijhkfhflpmajaa

