/- Own layer: walks through the library's SymMerge of entries. Of the program; no condition. -/
import Derived.Test.YtijhkfhflpmajaaPF
import Derived.Test.YtijhkfhflpmajaaPD
set_option linter.unusedSimpArgs false
set_option linter.unusedVariables false
namespace Go.Proofs.Ytijhkfhflpmajaa
open Go Go.Sx Go.Rt Go.Proofs
theorem w64u {n : Int} (h : 0 ≤ n) (h' : n < 9223372036854775808) : IntKind.u64.wrap n = n := by
  show n % _ = n
  exact Int.emod_eq_of_lt h (by have : n < 18446744073709551616 := by omega
                                exact this)
theorem halfE {i j : Nat} (h : i + j < 4611686018427387904) : IntKind.i64.wrap ((IntKind.u64.wrap (IntKind.i64.wrap ((i : Int) + (j : Int)))).fdiv (2 ^ min (Int.toNat 1) 64)) = (((i + j) / 2 : Nat) : Int) := by
  rw [wAdd h, w64u (by omega) (by omega)]
  have : (2 : Int) ^ min (Int.toNat 1) 64 = 2 := by decide
  rw [this, Int.fdiv_eq_ediv_of_nonneg _ (by omega), w64 (by omega) (by omega)]
  omega
theorem bifT {p q : Prop} [Decidable p] [Decidable q] (h : (bif decide p then decide q else false) = true) : p ∧ q := by
  by_cases h1 : p <;> by_cases h2 : q <;> simp_all
theorem bifF {p q : Prop} [Decidable p] [Decidable q] (h : (bif decide p then decide q else false) = false) : ¬ (p ∧ q) := by
  by_cases h1 : p <;> by_cases h2 : q <;> simp_all
set_option maxHeartbeats 1600000 in
theorem c_slices_symMerge {α : Type} [Inhabited α] (S : SortOf α) : ∀ (c : Nat) (k ver : Nat) (l : List α) (len : Nat) (hll : l.length = len) (a m b : Nat) (H : Heap) (n : Nat) (hk : k < n) (hH : H k = some (.arr ver 7 (l.map S.f))) (hc0 : CmpC S k H) (ha : a < m) (hmb : m < b) (hbl : b ≤ len) (hl : len < 2305843009213693952) (hc : b - a ≤ c),
    Ret Try.prog 87 [.osl k ver 0 len, .int .i64 a, .int .i64 m, .int .i64 b, cmpAV] H n (.tup []) (H.put k (some (.arr ver 7 ((symL S.lt c l a m b).map S.f)))) n := by
  intro c
  induction c with
  | zero => intro k ver l len hll a m b H n hk hH hc0 ha hmb hbl hl hc; omega
  | succ c ih =>
  intro k ver l len hll a m b H n hk hH hc0 ha hmb hbl hl hc
  have v1 := wSub (a := m) (b := a) (by omega) (by omega)
  have v2 := wSub (a := b) (b := m) (by omega) (by omega)
  refine acalls_of_awp Try.func87 rfl Try.ntmps87 (congrArg Array.toList Try.results87) (by simp) ?_
  simp only [go_sem]
  refine awp_seq_k fun K1 hK1 => ?_
  refine awp_reg zs [0, 1, 2, 3, 4, 28] fun K hK => ?_
  try simp only [go_sem, ↓reduceIte, Nat.reduceEqDiff, Nat.reduceLT, Nat.reduceSub, Nat.reduceAdd, Nat.reduceMul, v1]
  repeat refine peel ?_
  refine hK _ _ _ ?_; clear hK K
  refine awp_cnd (fun hb => ?_) (fun hb => ?_)
  ·skip
   have hc1 : m - a = 1 := by simp at hb; omega
   refine awp_rq zs [0, 1, 3, 4, 10] ?_
   refine awp_rq zs [0, 1, 4, 10, 11] ?_
   refine awp_seq_k fun K2 hK2 => ?_
   refine awp_block ?_
   refine awp_loop (fun T' H' n' => ∃ (i j : Nat), m ≤ i ∧ i ≤ j ∧ j ≤ b ∧ T' = tl [(0, .osl k ver 0 len), (1, .int .i64 a), (4, cmpAV), (10, .int .i64 i), (11, .int .i64 j)] ∧ H' = H ∧ n' = n ∧ bsL (fun h => S.lt (atL l h) (atL l a)) i j = bsL (fun h => S.lt (atL l h) (atL l a)) m b) (fun T' _ _ => iv (T' 11) - iv (T' 10)) ?_ ?_
   ·skip
    exact ⟨m, b, by omega, by omega, by omega, rfl, rfl, rfl, rfl⟩
   intro T1 H1 n1
   rintro ⟨i, j, hi, hij, hj, rfl, rfl, rfl, hr⟩
   refine awp_seq_k fun K3 hK3 => ?_
   refine awp_rq zs [0, 1, 4, 10, 11, 33] ?_
   refine awp_cnd (fun hb => ?_) (fun hb => ?_)
   ·skip
    have hlt : i < j := by simpa using hb
    have v3 := halfE (i := i) (j := j) (by omega)
    have v5 : (i + j) / 2 < len := by omega
    have v6 : a < len := by omega
    have v7 := w1 (i := (i + j) / 2) (by omega)
    rw [bsL_step _ hlt] at hr
    refine awp_skip ?_
    try simp only [go_sem, ↓reduceIte, Nat.reduceEqDiff, Nat.reduceLT, Nat.reduceSub, Nat.reduceAdd, Nat.reduceMul]
    refine hK3 _ _ _ ?_
    first | clear hK3 K3 | skip
    refine awp_block ?_
    refine awp_reg zs [0, 1, 4, 10, 11, 12] fun K hK => ?_
    try simp only [go_sem, ↓reduceIte, Nat.reduceEqDiff, Nat.reduceLT, Nat.reduceSub, Nat.reduceAdd, Nat.reduceMul, v3]
    repeat refine peel ?_
    refine hK _ _ _ ?_; clear hK K
    refine awp_drw rfl zs [0, 1, 4, 10, 11, 12, 50] [.m, .m, .m, .q, .q, .m, .m, .q, .q, .c, .q] (by kernel_rfl) (fun _ _ _ _ _ h => h) fun K hK => ?_
    try simp only [go_sem, ↓reduceIte, Nat.reduceEqDiff, Nat.reduceLT, Nat.reduceSub, Nat.reduceAdd, Nat.reduceMul, Int.toNat_natCast, hH, v5, v6, S.nthE, hll, S.lenE, S.sz, S.agg, S.mem, cmpAV]
    repeat refine peel ?_
    refine callQG_use Try.func69 rfl rfl rfl (fun _ n => (hc0.s _ n (atL l ((i + j) / 2)) (atL l a) (by intro jj hjj; simp [Heap.put, hjj]))) ?_
    try simp only [go_sem, ↓reduceIte, Nat.reduceEqDiff, Nat.reduceLT, Nat.reduceSub, Nat.reduceAdd, Nat.reduceMul, Int.toNat_natCast, hH, v5, v6, S.nthE, hll, S.lenE, S.sz, S.agg, S.mem, cmpAV]
    repeat refine peel ?_
    refine hK _ _ _ ?_; clear hK K
    refine awp_cnd (fun hb => ?_) (fun hb => ?_)
    ·skip
     have hf : S.lt (atL l ((i + j) / 2)) (atL l a) = true := by simpa [SortOf.lt] using hb
     rw [if_pos hf] at hr
     refine awp_reg1 zs [0, 1, 4, 10, 11] fun K hK => ?_
     try simp only [go_sem, ↓reduceIte, Nat.reduceEqDiff, Nat.reduceLT, Nat.reduceSub, Nat.reduceAdd, Nat.reduceMul, v7]
     repeat refine peel ?_
     refine hK _ _ _ ?_; clear hK K
     try simp only [go_sem, ↓reduceIte, Nat.reduceEqDiff, Nat.reduceLT, Nat.reduceSub, Nat.reduceAdd, Nat.reduceMul]
     first
     | exact ⟨⟨(i + j) / 2 + 1, j, by omega, by omega, by omega, rfl, hr⟩, by simp only [iv_int, Int.toNat_natCast]; omega⟩
     | exact ⟨⟨i, (i + j) / 2, by omega, by omega, by omega, rfl, hr⟩, by simp only [iv_int, Int.toNat_natCast]; omega⟩
    ·skip
     have hf : ¬ S.lt (atL l ((i + j) / 2)) (atL l a) = true := by simpa [SortOf.lt] using hb
     rw [if_neg hf] at hr
     refine awp_reg1 zs [0, 1, 4, 10, 11] fun K hK => ?_
     try simp only [go_sem, ↓reduceIte, Nat.reduceEqDiff, Nat.reduceLT, Nat.reduceSub, Nat.reduceAdd, Nat.reduceMul]
     repeat refine peel ?_
     refine hK _ _ _ ?_; clear hK K
     try simp only [go_sem, ↓reduceIte, Nat.reduceEqDiff, Nat.reduceLT, Nat.reduceSub, Nat.reduceAdd, Nat.reduceMul]
     first
     | exact ⟨⟨(i + j) / 2 + 1, j, by omega, by omega, by omega, rfl, hr⟩, by simp only [iv_int, Int.toNat_natCast]; omega⟩
     | exact ⟨⟨i, (i + j) / 2, by omega, by omega, by omega, rfl, hr⟩, by simp only [iv_int, Int.toNat_natCast]; omega⟩
   ·skip
    have hge : ¬ i < j := by simpa using hb
    rw [bsL_done _ hge] at hr
    refine awp_exit ?_
    try simp only [go_sem, ↓reduceIte, Nat.reduceEqDiff, Nat.reduceLT, Nat.reduceSub, Nat.reduceAdd, Nat.reduceMul]
    refine hK2 _ _ _ ?_
    first | clear hK2 K2 | skip
    refine awp_seq_k fun K4 hK4 => ?_
    refine awp_rq zs [0, 10, 13] ?_
    refine awp_block ?_
    refine awp_loop (fun T' H' n' => ∃ (q : Nat), q ≤ i - 1 - a ∧ T' = tl [(0, .osl k ver 0 len), (10, .int .i64 i), (13, .int .i64 (a + q : Nat))] ∧ H' = H1.put k (some (.arr ver 7 ((swapN l (fun i => a + i) (fun i => a + i + 1) q).map S.f))) ∧ n' = n1) (fun T' _ _ => i - iv (T' 13)) ?_ ?_
    ·skip
     exact ⟨0, by omega, rfl, by rw [swapN, put_id hH], rfl⟩
    intro T1 H1 n1
    rintro ⟨q, hq, rfl, rfl, rfl⟩
    refine awp_seq_k fun K5 hK5 => ?_
    have v8 := wSub1 (a := i) (by omega) (by omega)
    refine awp_reg zs [0, 10, 13, 58] fun K hK => ?_
    try simp only [go_sem, ↓reduceIte, Nat.reduceEqDiff, Nat.reduceLT, Nat.reduceSub, Nat.reduceAdd, Nat.reduceMul, v8]
    repeat refine peel ?_
    refine hK _ _ _ ?_; clear hK K
    refine awp_cnd (fun hb => ?_) (fun hb => ?_)
    ·skip
     have hlt : q < i - 1 - a := by simp at hb; omega
     have v9 := w1 (i := a + q) (by omega)
     have v10 : a + q < len := by omega
     have v11 : a + q + 1 < len := by omega
     refine awp_skip ?_
     try simp only [go_sem, ↓reduceIte, Nat.reduceEqDiff, Nat.reduceLT, Nat.reduceSub, Nat.reduceAdd, Nat.reduceMul]
     refine hK5 _ _ _ ?_
     first | clear hK5 K5 | skip
     refine awp_seq_k fun K6 hK6 => ?_
     refine awp_block ?_
     refine awp_drw1 rfl zs [0, 10, 13] [.m, .m, .m, .m, .q, .m, .m, .q, .q, .q, .m, .m, .q, .q, .q, .w [4], .q, .w []] (by kernel_rfl) (fun _ _ _ _ _ h => h) fun K hK => ?_
     try simp only [go_sem, ↓reduceIte, Nat.reduceEqDiff, Nat.reduceLT, Nat.reduceSub, Nat.reduceAdd, Nat.reduceMul, v9, v10, v11, Int.toNat_natCast, S.nthE, hll, swapN_length, List.length_set, ← List.map_set, S.lenE, S.sz, S.agg, S.mem]
     repeat refine peel ?_
     refine hK _ _ _ ?_; clear hK K
     try simp only [go_sem, ↓reduceIte, Nat.reduceEqDiff, Nat.reduceLT, Nat.reduceSub, Nat.reduceAdd, Nat.reduceMul]
     refine hK6 _ _ _ ?_
     first | clear hK6 K6 | skip
     refine awp_reg1 zs [0, 10, 13] fun K hK => ?_
     try simp only [go_sem, ↓reduceIte, Nat.reduceEqDiff, Nat.reduceLT, Nat.reduceSub, Nat.reduceAdd, Nat.reduceMul, v9]
     repeat refine peel ?_
     refine hK _ _ _ ?_; clear hK K
     try simp only [go_sem, ↓reduceIte, Nat.reduceEqDiff, Nat.reduceLT, Nat.reduceSub, Nat.reduceAdd, Nat.reduceMul]
     exact ⟨⟨q + 1, by omega, rfl, by rw [swapN, swapL]⟩, by simp only [iv_int, Int.toNat_natCast]; omega⟩
    ·skip
     have hge : i - 1 - a = q := by simp at hb; omega
     have hfin : symL S.lt (c + 1) l a m b = swapN l (fun i => a + i) (fun i => a + i + 1) q := by rw [symL, if_pos hc1, ← hr, hge]
     refine awp_exit ?_
     try simp only [go_sem, ↓reduceIte, Nat.reduceEqDiff, Nat.reduceLT, Nat.reduceSub, Nat.reduceAdd, Nat.reduceMul]
     refine hK4 _ _ _ ?_
     first | clear hK4 K4 | skip
     refine awp_ret ?_
     try simp only [go_sem, ↓reduceIte, Nat.reduceEqDiff, Nat.reduceLT, Nat.reduceSub, Nat.reduceAdd, Nat.reduceMul]
     first | rw [hfin] | rfl | skip
  ·skip
   have hc1 : ¬ m - a = 1 := by simp at hb; omega
   refine awp_skip ?_
   try simp only [go_sem, ↓reduceIte, Nat.reduceEqDiff, Nat.reduceLT, Nat.reduceSub, Nat.reduceAdd, Nat.reduceMul]
   refine hK1 _ _ _ ?_
   first | clear hK1 K1 | skip
   refine awp_seq_k fun K7 hK7 => ?_
   refine awp_reg zs [0, 1, 2, 3, 4, 80] fun K hK => ?_
   try simp only [go_sem, ↓reduceIte, Nat.reduceEqDiff, Nat.reduceLT, Nat.reduceSub, Nat.reduceAdd, Nat.reduceMul, v2]
   repeat refine peel ?_
   refine hK _ _ _ ?_; clear hK K
   refine awp_cnd (fun hb => ?_) (fun hb => ?_)
   ·skip
    have hc2 : b - m = 1 := by simp at hb; omega
    refine awp_rq zs [0, 2, 4, 14] ?_
    refine awp_rq zs [0, 2, 4, 14, 15] ?_
    refine awp_seq_k fun K8 hK8 => ?_
    refine awp_block ?_
    refine awp_loop (fun T' H' n' => ∃ (i j : Nat), a ≤ i ∧ i ≤ j ∧ j ≤ m ∧ T' = tl [(0, .osl k ver 0 len), (2, .int .i64 m), (4, cmpAV), (14, .int .i64 i), (15, .int .i64 j)] ∧ H' = H ∧ n' = n ∧ bsL (fun h => !S.lt (atL l m) (atL l h)) i j = bsL (fun h => !S.lt (atL l m) (atL l h)) a m) (fun T' _ _ => iv (T' 15) - iv (T' 14)) ?_ ?_
    ·skip
     exact ⟨a, m, by omega, by omega, by omega, rfl, rfl, rfl, rfl⟩
    intro T1 H1 n1
    rintro ⟨i, j, hi, hij, hj, rfl, rfl, rfl, hr⟩
    refine awp_seq_k fun K9 hK9 => ?_
    refine awp_rq zs [0, 2, 4, 14, 15, 85] ?_
    refine awp_cnd (fun hb => ?_) (fun hb => ?_)
    ·skip
     have hlt : i < j := by simpa using hb
     have v3 := halfE (i := i) (j := j) (by omega)
     have v5 : (i + j) / 2 < len := by omega
     have v6 : m < len := by omega
     have v7 := w1 (i := (i + j) / 2) (by omega)
     rw [bsL_step _ hlt] at hr
     refine awp_skip ?_
     try simp only [go_sem, ↓reduceIte, Nat.reduceEqDiff, Nat.reduceLT, Nat.reduceSub, Nat.reduceAdd, Nat.reduceMul]
     refine hK9 _ _ _ ?_
     first | clear hK9 K9 | skip
     refine awp_block ?_
     refine awp_reg zs [0, 2, 4, 14, 15, 16] fun K hK => ?_
     try simp only [go_sem, ↓reduceIte, Nat.reduceEqDiff, Nat.reduceLT, Nat.reduceSub, Nat.reduceAdd, Nat.reduceMul, v3]
     repeat refine peel ?_
     refine hK _ _ _ ?_; clear hK K
     refine awp_drw rfl zs [0, 2, 4, 14, 15, 16, 103] [.m, .m, .m, .q, .q, .m, .m, .q, .q, .c, .q, .q] (by kernel_rfl) (fun _ _ _ _ _ h => h) fun K hK => ?_
     try simp only [go_sem, ↓reduceIte, Nat.reduceEqDiff, Nat.reduceLT, Nat.reduceSub, Nat.reduceAdd, Nat.reduceMul, Int.toNat_natCast, hH, v5, v6, S.nthE, hll, S.lenE, S.sz, S.agg, S.mem, cmpAV]
     repeat refine peel ?_
     refine callQG_use Try.func69 rfl rfl rfl (fun _ n => (hc0.s _ n (atL l m) (atL l ((i + j) / 2)) (by intro jj hjj; simp [Heap.put, hjj]))) ?_
     try simp only [go_sem, ↓reduceIte, Nat.reduceEqDiff, Nat.reduceLT, Nat.reduceSub, Nat.reduceAdd, Nat.reduceMul, Int.toNat_natCast, hH, v5, v6, S.nthE, hll, S.lenE, S.sz, S.agg, S.mem, cmpAV]
     repeat refine peel ?_
     refine hK _ _ _ ?_; clear hK K
     refine awp_cnd (fun hb => ?_) (fun hb => ?_)
     ·skip
      have hf : (!S.lt (atL l m) (atL l ((i + j) / 2))) = true := by simpa [SortOf.lt] using hb
      rw [if_pos hf] at hr
      refine awp_reg1 zs [0, 2, 4, 14, 15] fun K hK => ?_
      try simp only [go_sem, ↓reduceIte, Nat.reduceEqDiff, Nat.reduceLT, Nat.reduceSub, Nat.reduceAdd, Nat.reduceMul, v7]
      repeat refine peel ?_
      refine hK _ _ _ ?_; clear hK K
      try simp only [go_sem, ↓reduceIte, Nat.reduceEqDiff, Nat.reduceLT, Nat.reduceSub, Nat.reduceAdd, Nat.reduceMul]
      first
      | exact ⟨⟨(i + j) / 2 + 1, j, by omega, by omega, by omega, rfl, hr⟩, by simp only [iv_int, Int.toNat_natCast]; omega⟩
      | exact ⟨⟨i, (i + j) / 2, by omega, by omega, by omega, rfl, hr⟩, by simp only [iv_int, Int.toNat_natCast]; omega⟩
     ·skip
      have hf : ¬ (!S.lt (atL l m) (atL l ((i + j) / 2))) = true := by simpa [SortOf.lt] using hb
      rw [if_neg hf] at hr
      refine awp_reg1 zs [0, 2, 4, 14, 15] fun K hK => ?_
      try simp only [go_sem, ↓reduceIte, Nat.reduceEqDiff, Nat.reduceLT, Nat.reduceSub, Nat.reduceAdd, Nat.reduceMul]
      repeat refine peel ?_
      refine hK _ _ _ ?_; clear hK K
      try simp only [go_sem, ↓reduceIte, Nat.reduceEqDiff, Nat.reduceLT, Nat.reduceSub, Nat.reduceAdd, Nat.reduceMul]
      first
      | exact ⟨⟨(i + j) / 2 + 1, j, by omega, by omega, by omega, rfl, hr⟩, by simp only [iv_int, Int.toNat_natCast]; omega⟩
      | exact ⟨⟨i, (i + j) / 2, by omega, by omega, by omega, rfl, hr⟩, by simp only [iv_int, Int.toNat_natCast]; omega⟩
    ·skip
     have hge : ¬ i < j := by simpa using hb
     rw [bsL_done _ hge] at hr
     refine awp_exit ?_
     try simp only [go_sem, ↓reduceIte, Nat.reduceEqDiff, Nat.reduceLT, Nat.reduceSub, Nat.reduceAdd, Nat.reduceMul]
     refine hK8 _ _ _ ?_
     first | clear hK8 K8 | skip
     refine awp_seq_k fun K10 hK10 => ?_
     refine awp_rq zs [0, 14, 17] ?_
     refine awp_block ?_
     refine awp_loop (fun T' H' n' => ∃ (q : Nat), q ≤ m - i ∧ T' = tl [(0, .osl k ver 0 len), (14, .int .i64 i), (17, .int .i64 (m - q : Nat))] ∧ H' = H1.put k (some (.arr ver 7 ((swapN l (fun i => m - i) (fun i => m - i - 1) q).map S.f))) ∧ n' = n1) (fun T' _ _ => iv (T' 17)) ?_ ?_
     ·skip
      exact ⟨0, by omega, rfl, by rw [swapN, put_id hH], rfl⟩
     intro T1 H1 n1
     rintro ⟨q, hq, rfl, rfl, rfl⟩
     refine awp_seq_k fun K11 hK11 => ?_
     refine awp_rq zs [0, 14, 17, 110] ?_
     refine awp_cnd (fun hb => ?_) (fun hb => ?_)
     ·skip
      have hlt : q < m - i := by simp at hb; omega
      have v9 := wSub1 (a := m - q) (by omega) (by omega)
      have v10 : m - q < len := by omega
      have v11 : m - q - 1 < len := by omega
      refine awp_skip ?_
      try simp only [go_sem, ↓reduceIte, Nat.reduceEqDiff, Nat.reduceLT, Nat.reduceSub, Nat.reduceAdd, Nat.reduceMul]
      refine hK11 _ _ _ ?_
      first | clear hK11 K11 | skip
      refine awp_seq_k fun K12 hK12 => ?_
      refine awp_block ?_
      refine awp_drw1 rfl zs [0, 14, 17] [.m, .m, .m, .m, .q, .m, .m, .q, .q, .q, .m, .m, .q, .q, .q, .w [4], .q, .w []] (by kernel_rfl) (fun _ _ _ _ _ h => h) fun K hK => ?_
      try simp only [go_sem, ↓reduceIte, Nat.reduceEqDiff, Nat.reduceLT, Nat.reduceSub, Nat.reduceAdd, Nat.reduceMul, v9, v10, v11, Int.toNat_natCast, S.nthE, hll, swapN_length, List.length_set, ← List.map_set, S.lenE, S.sz, S.agg, S.mem]
      repeat refine peel ?_
      refine hK _ _ _ ?_; clear hK K
      try simp only [go_sem, ↓reduceIte, Nat.reduceEqDiff, Nat.reduceLT, Nat.reduceSub, Nat.reduceAdd, Nat.reduceMul]
      refine hK12 _ _ _ ?_
      first | clear hK12 K12 | skip
      refine awp_reg1 zs [0, 14, 17] fun K hK => ?_
      try simp only [go_sem, ↓reduceIte, Nat.reduceEqDiff, Nat.reduceLT, Nat.reduceSub, Nat.reduceAdd, Nat.reduceMul, v9]
      repeat refine peel ?_
      refine hK _ _ _ ?_; clear hK K
      try simp only [go_sem, ↓reduceIte, Nat.reduceEqDiff, Nat.reduceLT, Nat.reduceSub, Nat.reduceAdd, Nat.reduceMul]
      exact ⟨⟨q + 1, by omega, rfl, by rw [swapN, swapL]⟩, by simp only [iv_int, Int.toNat_natCast]; omega⟩
     ·skip
      have hge : m - i = q := by simp at hb; omega
      have hfin : symL S.lt (c + 1) l a m b = swapN l (fun i => m - i) (fun i => m - i - 1) q := by rw [symL, if_neg hc1, if_pos hc2, ← hr, hge]
      refine awp_exit ?_
      try simp only [go_sem, ↓reduceIte, Nat.reduceEqDiff, Nat.reduceLT, Nat.reduceSub, Nat.reduceAdd, Nat.reduceMul]
      refine hK10 _ _ _ ?_
      first | clear hK10 K10 | skip
      refine awp_ret ?_
      try simp only [go_sem, ↓reduceIte, Nat.reduceEqDiff, Nat.reduceLT, Nat.reduceSub, Nat.reduceAdd, Nat.reduceMul]
      first | rw [hfin] | rfl | skip
   ·skip
    have hc2 : ¬ b - m = 1 := by simp at hb; omega
    refine awp_skip ?_
    try simp only [go_sem, ↓reduceIte, Nat.reduceEqDiff, Nat.reduceLT, Nat.reduceSub, Nat.reduceAdd, Nat.reduceMul]
    refine hK7 _ _ _ ?_
    first | clear hK7 K7 | skip
    rw [symL, if_neg hc1, if_neg hc2]
    have v3 := halfE (i := a) (j := b) (by omega)
    generalize hmid : (a + b) / 2 = mid at *
    have v4 := wAdd (a := mid) (b := m) (by omega)
    refine awp_reg zs [0, 1, 2, 3, 4, 18] fun K hK => ?_
    try simp only [go_sem, ↓reduceIte, Nat.reduceEqDiff, Nat.reduceLT, Nat.reduceSub, Nat.reduceAdd, Nat.reduceMul, v3]
    repeat refine peel ?_
    refine hK _ _ _ ?_; clear hK K
    refine awp_reg zs [0, 1, 2, 3, 4, 18, 19] fun K hK => ?_
    try simp only [go_sem, ↓reduceIte, Nat.reduceEqDiff, Nat.reduceLT, Nat.reduceSub, Nat.reduceAdd, Nat.reduceMul, v4]
    repeat refine peel ?_
    refine hK _ _ _ ?_; clear hK K
    refine awp_rq zs [0, 1, 2, 3, 4, 18, 19] ?_
    refine awp_seq_j (fun T' H' n' => ∃ s0 r0 : Nat, (if m > mid then mid + m - b else a) = s0 ∧ (if m > mid then mid else m) = r0 ∧ a ≤ s0 ∧ s0 ≤ r0 ∧ r0 ≤ mid ∧ r0 ≤ m ∧ mid + m - s0 ≤ b ∧ T' 0 = .osl k ver 0 len ∧ T' 1 = .int .i64 a ∧ T' 2 = .int .i64 m ∧ T' 3 = .int .i64 b ∧ T' 4 = cmpAV ∧ T' 18 = .int .i64 mid ∧ T' 19 = .int .i64 (mid + m : Nat) ∧ T' 20 = .int .i64 s0 ∧ T' 21 = .int .i64 r0 ∧ H' = H ∧ n' = n) ?_ ?_
    ·skip
     refine awp_rq zs [0, 1, 2, 3, 4, 18, 19, 140] ?_
     refine awp_cnd (fun hb => ?_) (fun hb => ?_)
     ·skip
      have hgt : m > mid := by simp at hb; omega
      have v5 := wSub (a := mid + m) (b := b) (by omega) (by omega)
      refine awp_reg zs [0, 1, 2, 3, 4, 18, 19, 20] fun K hK => ?_
      try simp only [go_sem, ↓reduceIte, Nat.reduceEqDiff, Nat.reduceLT, Nat.reduceSub, Nat.reduceAdd, Nat.reduceMul, v5]
      repeat refine peel ?_
      refine hK _ _ _ ?_; clear hK K
      refine awp_reg1 zs [0, 1, 2, 3, 4, 18, 19, 20, 21] fun K hK => ?_
      try simp only [go_sem, ↓reduceIte, Nat.reduceEqDiff, Nat.reduceLT, Nat.reduceSub, Nat.reduceAdd, Nat.reduceMul]
      repeat refine peel ?_
      refine hK _ _ _ ?_; clear hK K
      try simp only [go_sem, ↓reduceIte, Nat.reduceEqDiff, Nat.reduceLT, Nat.reduceSub, Nat.reduceAdd, Nat.reduceMul]
      first
      | (refine ⟨mid + m - b, mid, if_pos hgt, if_pos hgt, by omega, by omega, by omega, by omega, by omega, ?_⟩; simp; done)
      | (refine ⟨a, m, if_neg hgt, if_neg hgt, by omega, by omega, by omega, by omega, by omega, ?_⟩; simp; done)
     ·skip
      have hgt : ¬ m > mid := by simp at hb; omega
      refine awp_rq zs [0, 1, 2, 3, 4, 18, 19, 20] ?_
      refine awp_reg1 zs [0, 1, 2, 3, 4, 18, 19, 20, 21] fun K hK => ?_
      try simp only [go_sem, ↓reduceIte, Nat.reduceEqDiff, Nat.reduceLT, Nat.reduceSub, Nat.reduceAdd, Nat.reduceMul]
      repeat refine peel ?_
      refine hK _ _ _ ?_; clear hK K
      try simp only [go_sem, ↓reduceIte, Nat.reduceEqDiff, Nat.reduceLT, Nat.reduceSub, Nat.reduceAdd, Nat.reduceMul]
      first
      | (refine ⟨mid + m - b, mid, if_pos hgt, if_pos hgt, by omega, by omega, by omega, by omega, by omega, ?_⟩; simp; done)
      | (refine ⟨a, m, if_neg hgt, if_neg hgt, by omega, by omega, by omega, by omega, by omega, ?_⟩; simp; done)
    rintro T1 H1 n1 ⟨s0, r0, hs0, hr0, g1, g2, g3, g4, g5, t0, t1, t2, t3, t4, t18, t19, t20, t21, rfl, rfl⟩
    refine awp_sel [0, 1, 2, 3, 4, 18, 19, 20, 21] ?_
    simp only [tsel_eq, List.map_cons, List.map_nil, t0, t1, t2, t3, t4, t18, t19, t20, t21]
    rw [hs0, hr0]
    try dsimp only
    generalize hst : bsL (fun c => !S.lt (atL l (mid + m - 1 - c)) (atL l c)) s0 r0 = st
    have v5 := wSub1 (a := mid + m) (by omega) (by omega)
    refine awp_reg zs [0, 1, 2, 3, 4, 18, 19, 20, 21, 22] fun K hK => ?_
    try simp only [go_sem, ↓reduceIte, Nat.reduceEqDiff, Nat.reduceLT, Nat.reduceSub, Nat.reduceAdd, Nat.reduceMul, v5]
    repeat refine peel ?_
    refine hK _ _ _ ?_; clear hK K
    refine awp_seq_k fun K13 hK13 => ?_
    refine awp_block ?_
    refine awp_loop (fun T' H' n' => ∃ (i j : Nat), s0 ≤ i ∧ i ≤ j ∧ j ≤ r0 ∧ T' = tl [(0, .osl k ver 0 len), (1, .int .i64 a), (2, .int .i64 m), (3, .int .i64 b), (4, cmpAV), (18, .int .i64 mid), (19, .int .i64 (mid + m : Nat)), (20, .int .i64 i), (21, .int .i64 j), (22, .int .i64 (mid + m - 1 : Nat))] ∧ H' = H1 ∧ n' = n1 ∧ bsL (fun c => !S.lt (atL l (mid + m - 1 - c)) (atL l c)) i j = st) (fun T' _ _ => iv (T' 21) - iv (T' 20)) ?_ ?_
    ·skip
     exact ⟨s0, r0, by omega, by omega, by omega, rfl, rfl, rfl, hst⟩
    intro T1 H1 n1
    rintro ⟨i, j, hi, hij, hj, rfl, rfl, rfl, hr⟩
    refine awp_seq_k fun K14 hK14 => ?_
    refine awp_rq zs [0, 1, 2, 3, 4, 18, 19, 20, 21, 22, 151] ?_
    refine awp_cnd (fun hb => ?_) (fun hb => ?_)
    ·skip
     have hlt : i < j := by simpa using hb
     have v6 := halfE (i := i) (j := j) (by omega)
     have v7 := wSub (a := mid + m - 1) (b := (i + j) / 2) (by omega) (by omega)
     have v8 : (i + j) / 2 < len := by omega
     have v9 : mid + m - 1 - (i + j) / 2 < len := by omega
     have v10 := w1 (i := (i + j) / 2) (by omega)
     rw [bsL_step _ hlt] at hr
     refine awp_skip ?_
     try simp only [go_sem, ↓reduceIte, Nat.reduceEqDiff, Nat.reduceLT, Nat.reduceSub, Nat.reduceAdd, Nat.reduceMul]
     refine hK14 _ _ _ ?_
     first | clear hK14 K14 | skip
     refine awp_block ?_
     refine awp_reg zs [0, 1, 2, 3, 4, 18, 19, 20, 21, 22, 23] fun K hK => ?_
     try simp only [go_sem, ↓reduceIte, Nat.reduceEqDiff, Nat.reduceLT, Nat.reduceSub, Nat.reduceAdd, Nat.reduceMul, v6]
     repeat refine peel ?_
     refine hK _ _ _ ?_; clear hK K
     refine awp_drw rfl zs [0, 1, 2, 3, 4, 18, 19, 20, 21, 22, 23, 171] [.m, .m, .m, .m, .q, .q, .q, .m, .m, .q, .q, .c, .q, .q] (by kernel_rfl) (fun _ _ _ _ _ h => h) fun K hK => ?_
     try simp only [go_sem, ↓reduceIte, Nat.reduceEqDiff, Nat.reduceLT, Nat.reduceSub, Nat.reduceAdd, Nat.reduceMul, v7, Int.toNat_natCast, hH, v8, v9, S.nthE, hll, S.lenE, S.sz, S.agg, S.mem, cmpAV]
     repeat refine peel ?_
     refine callQG_use Try.func69 rfl rfl rfl (fun _ n => (hc0.s _ n (atL l (mid + m - 1 - (i + j) / 2)) (atL l ((i + j) / 2)) (by intro jj hjj; simp [Heap.put, hjj]))) ?_
     try simp only [go_sem, ↓reduceIte, Nat.reduceEqDiff, Nat.reduceLT, Nat.reduceSub, Nat.reduceAdd, Nat.reduceMul, v7, Int.toNat_natCast, hH, v8, v9, S.nthE, hll, S.lenE, S.sz, S.agg, S.mem, cmpAV]
     repeat refine peel ?_
     refine hK _ _ _ ?_; clear hK K
     refine awp_cnd (fun hb => ?_) (fun hb => ?_)
     ·skip
      have hf : (!S.lt (atL l (mid + m - 1 - (i + j) / 2)) (atL l ((i + j) / 2))) = true := by simpa [SortOf.lt] using hb
      rw [if_pos hf] at hr
      refine awp_reg1 zs [0, 1, 2, 3, 4, 18, 19, 20, 21, 22] fun K hK => ?_
      try simp only [go_sem, ↓reduceIte, Nat.reduceEqDiff, Nat.reduceLT, Nat.reduceSub, Nat.reduceAdd, Nat.reduceMul, v10]
      repeat refine peel ?_
      refine hK _ _ _ ?_; clear hK K
      try simp only [go_sem, ↓reduceIte, Nat.reduceEqDiff, Nat.reduceLT, Nat.reduceSub, Nat.reduceAdd, Nat.reduceMul]
      first
      | exact ⟨⟨(i + j) / 2 + 1, j, by omega, by omega, by omega, rfl, hr⟩, by simp only [iv_int, Int.toNat_natCast]; omega⟩
      | exact ⟨⟨i, (i + j) / 2, by omega, by omega, by omega, rfl, hr⟩, by simp only [iv_int, Int.toNat_natCast]; omega⟩
     ·skip
      have hf : ¬ (!S.lt (atL l (mid + m - 1 - (i + j) / 2)) (atL l ((i + j) / 2))) = true := by simpa [SortOf.lt] using hb
      rw [if_neg hf] at hr
      refine awp_reg1 zs [0, 1, 2, 3, 4, 18, 19, 20, 21, 22] fun K hK => ?_
      try simp only [go_sem, ↓reduceIte, Nat.reduceEqDiff, Nat.reduceLT, Nat.reduceSub, Nat.reduceAdd, Nat.reduceMul]
      repeat refine peel ?_
      refine hK _ _ _ ?_; clear hK K
      try simp only [go_sem, ↓reduceIte, Nat.reduceEqDiff, Nat.reduceLT, Nat.reduceSub, Nat.reduceAdd, Nat.reduceMul]
      first
      | exact ⟨⟨(i + j) / 2 + 1, j, by omega, by omega, by omega, rfl, hr⟩, by simp only [iv_int, Int.toNat_natCast]; omega⟩
      | exact ⟨⟨i, (i + j) / 2, by omega, by omega, by omega, rfl, hr⟩, by simp only [iv_int, Int.toNat_natCast]; omega⟩
    ·skip
     have hge : ¬ i < j := by simpa using hb
     rw [bsL_done _ hge] at hr
     subst hr
     refine awp_exit ?_
     try simp only [go_sem, ↓reduceIte, Nat.reduceEqDiff, Nat.reduceLT, Nat.reduceSub, Nat.reduceAdd, Nat.reduceMul]
     refine hK13 _ _ _ ?_
     first | clear hK13 K13 | skip
     have v11 := wSub (a := mid + m) (b := i) (by omega) (by omega)
     try dsimp only
     generalize hen : mid + m - i = en at *
     refine awp_reg zs [0, 1, 2, 3, 4, 18, 20, 24] fun K hK => ?_
     try simp only [go_sem, ↓reduceIte, Nat.reduceEqDiff, Nat.reduceLT, Nat.reduceSub, Nat.reduceAdd, Nat.reduceMul, v11]
     repeat refine peel ?_
     refine hK _ _ _ ?_; clear hK K
     refine awp_seq_j (fun T' H' n' => ∃ l1, (if i < m ∧ m < en then rotL (en - i) l m (m - i) (en - m) else l) = l1 ∧ l1.length = len ∧ T' 0 = .osl k ver 0 len ∧ T' 1 = .int .i64 a ∧ T' 3 = .int .i64 b ∧ T' 4 = cmpAV ∧ T' 18 = .int .i64 mid ∧ T' 20 = .int .i64 i ∧ T' 24 = .int .i64 en ∧ H' = H1.put k (some (.arr ver 7 (l1.map S.f))) ∧ n' = n1) ?_ ?_
     ·skip
      refine awp_rq zs [0, 1, 2, 3, 4, 18, 20, 24, 185] ?_
      refine awp_cnd (fun hb => ?_) (fun hb => ?_)
      ·skip
       have hc3 : i < m ∧ m < en := by have h9 := bifT hb; omega
       refine awp_reg1 zs [0, 1, 3, 4, 18, 20, 24] fun K hK => ?_
       try simp only [go_sem, ↓reduceIte, Nat.reduceEqDiff, Nat.reduceLT, Nat.reduceSub, Nat.reduceAdd, Nat.reduceMul]
       repeat refine peel ?_
       refine callK_use Try.func100 rfl rfl rfl ((c_slices_rotate S k ver l len hll i m en _ _ hk hH hc3.1 hc3.2 (by omega) hl)) ?_
       try simp only [go_sem, ↓reduceIte, Nat.reduceEqDiff, Nat.reduceLT, Nat.reduceSub, Nat.reduceAdd, Nat.reduceMul]
       repeat refine peel ?_
       refine hK _ _ _ ?_; clear hK K
       try simp only [go_sem, ↓reduceIte, Nat.reduceEqDiff, Nat.reduceLT, Nat.reduceSub, Nat.reduceAdd, Nat.reduceMul]
       first
       | (refine ⟨_, if_pos hc3, by rw [rotL_length, hll], ?_⟩; simp; done)
       | (refine ⟨_, if_neg hc3, hll, ?_⟩; rw [put_id hH])
      ·skip
       have hc3 : ¬ (i < m ∧ m < en) := by have h9 := bifF hb; omega
       refine awp_skip ?_
       try simp only [go_sem, ↓reduceIte, Nat.reduceEqDiff, Nat.reduceLT, Nat.reduceSub, Nat.reduceAdd, Nat.reduceMul]
       first
       | (refine ⟨_, if_pos hc3, by rw [rotL_length, hll], ?_⟩; simp; done)
       | (refine ⟨_, if_neg hc3, hll, ?_⟩; rw [put_id hH])
     rintro T1 _ n1 ⟨l1, hl1, hll1, t0, t1, t3, t4, t18, t20, t24, rfl, rfl⟩
     refine awp_sel [0, 1, 3, 4, 18, 20, 24] ?_
     simp only [tsel_eq, List.map_cons, List.map_nil, t0, t1, t3, t4, t18, t20, t24]
     rw [hl1]
     refine awp_seq_j (fun T' H' n' => ∃ l2, (if a < i ∧ i < mid then symL S.lt c l1 a i mid else l1) = l2 ∧ l2.length = len ∧ T' 0 = .osl k ver 0 len ∧ T' 3 = .int .i64 b ∧ T' 4 = cmpAV ∧ T' 18 = .int .i64 mid ∧ T' 24 = .int .i64 en ∧ H' = H1.put k (some (.arr ver 7 (l2.map S.f))) ∧ n' = n1) ?_ ?_
     ·skip
      refine awp_rq zs [0, 1, 3, 4, 18, 20, 24, 199] ?_
      refine awp_cnd (fun hb => ?_) (fun hb => ?_)
      ·skip
       have hc4 : a < i ∧ i < mid := by have h9 := bifT hb; omega
       refine awp_reg1 zs [0, 3, 4, 18, 24] fun K hK => ?_
       try simp only [go_sem, ↓reduceIte, Nat.reduceEqDiff, Nat.reduceLT, Nat.reduceSub, Nat.reduceAdd, Nat.reduceMul]
       repeat refine peel ?_
       refine callK_use Try.func87 rfl rfl rfl ((ih k ver l1 len hll1 a i mid _ _ hk (Heap.put_same _ _ _) (hc0.put _) hc4.1 hc4.2 (by omega) hl (by omega))) ?_
       try simp only [go_sem, ↓reduceIte, Nat.reduceEqDiff, Nat.reduceLT, Nat.reduceSub, Nat.reduceAdd, Nat.reduceMul]
       repeat refine peel ?_
       refine hK _ _ _ ?_; clear hK K
       try simp only [go_sem, ↓reduceIte, Nat.reduceEqDiff, Nat.reduceLT, Nat.reduceSub, Nat.reduceAdd, Nat.reduceMul]
       first
       | (refine ⟨_, if_pos hc4, by rw [symL_length, hll1], ?_⟩; simp; done)
       | (refine ⟨_, if_neg hc4, hll1, ?_⟩; simp; done)
      ·skip
       have hc4 : ¬ (a < i ∧ i < mid) := by have h9 := bifF hb; omega
       refine awp_skip ?_
       try simp only [go_sem, ↓reduceIte, Nat.reduceEqDiff, Nat.reduceLT, Nat.reduceSub, Nat.reduceAdd, Nat.reduceMul]
       first
       | (refine ⟨_, if_pos hc4, by rw [symL_length, hll1], ?_⟩; simp; done)
       | (refine ⟨_, if_neg hc4, hll1, ?_⟩; simp; done)
     rintro T1 _ n1 ⟨l2, hl2, hll2, t0, t3, t4, t18, t24, rfl, rfl⟩
     refine awp_sel [0, 3, 4, 18, 24] ?_
     simp only [tsel_eq, List.map_cons, List.map_nil, t0, t3, t4, t18, t24]
     rw [hl2]
     refine awp_rq zs [0, 3, 4, 18, 24, 213] ?_
     refine awp_cnd (fun hb => ?_) (fun hb => ?_)
     ·skip
      have hc5 : mid < en ∧ en < b := by have h9 := bifT hb; omega
      rw [if_pos hc5]
      refine awp_reg1 zs [] fun K hK => ?_
      try simp only [go_sem, ↓reduceIte, Nat.reduceEqDiff, Nat.reduceLT, Nat.reduceSub, Nat.reduceAdd, Nat.reduceMul]
      repeat refine peel ?_
      refine callK_use Try.func87 rfl rfl rfl ((ih k ver l2 len hll2 mid en b _ _ hk (Heap.put_same _ _ _) (hc0.put _) hc5.1 hc5.2 (by omega) hl (by omega))) ?_
      try simp only [go_sem, ↓reduceIte, Nat.reduceEqDiff, Nat.reduceLT, Nat.reduceSub, Nat.reduceAdd, Nat.reduceMul]
      repeat refine peel ?_
      refine hK _ _ _ ?_; clear hK K
      try simp only [go_sem, ↓reduceIte, Nat.reduceEqDiff, Nat.reduceLT, Nat.reduceSub, Nat.reduceAdd, Nat.reduceMul]
      try simp only [go_sem, ↓reduceIte, Nat.reduceEqDiff, Nat.reduceLT, Nat.reduceSub, Nat.reduceAdd, Nat.reduceMul]
      first | rw [hfin] | rfl | skip
     ·skip
      have hc5 : ¬ (mid < en ∧ en < b) := by have h9 := bifF hb; omega
      rw [if_neg hc5]
      refine awp_skip ?_
      try simp only [go_sem, ↓reduceIte, Nat.reduceEqDiff, Nat.reduceLT, Nat.reduceSub, Nat.reduceAdd, Nat.reduceMul]
      first | rw [hfin] | rfl | skip
end Go.Proofs.Ytijhkfhflpmajaa
namespace Go.Proofs.Ytijhkfhflpmajaa
open Go Go.Sx Go.Rt Go.Proofs
theorem blkL_length {α : Type} [Inhabited α] (lt : α → α → Bool) (l : List α) (t : Nat) : (blkL lt l t).length = l.length := by
  induction t with
  | zero => rfl
  | succ t ih => rw [blkL, insN_length, ih]
theorem mrgL_length {α : Type} [Inhabited α] (lt : α → α → Bool) (l : List α) (bs t : Nat) : (mrgL lt l bs t).length = l.length := by
  induction t with
  | zero => rfl
  | succ t ih => rw [mrgL, symL_length, ih]
theorem passL_length {α : Type} [Inhabited α] (lt : α → α → Bool) (l : List α) (bs n : Nat) : (passL lt l bs n).length = l.length := by
  rw [passL]; split <;> simp [symL_length, mrgL_length]
theorem mrg_mul (bs t : Nat) : 2 * bs * (t + 1) = 2 * bs * t + 2 * bs := by rw [Nat.mul_add, Nat.mul_one]
theorem div_lo {len d t : Nat} (h : ¬ d * t + d ≤ len) (h' : t ≤ len / d) (h0 : 0 < d) : len / d = t := by
  refine Nat.le_antisymm ?_ h'
  rcases Nat.lt_or_ge t (len / d) with h1 | h1
  · exfalso; apply h
    have h2 : d * (t + 1) ≤ d * (len / d) := Nat.mul_le_mul_left d h1
    have h3 := Nat.div_mul_le_self len d
    rw [Nat.mul_comm] at h3
    rw [Nat.mul_add, Nat.mul_one] at h2
    omega
  · exact h1
theorem div_hi {len d t : Nat} (h : d * t + d ≤ len) (h0 : 0 < d) : t + 1 ≤ len / d := by
  rw [Nat.le_div_iff_mul_le h0, Nat.mul_comm, Nat.mul_add, Nat.mul_one]; exact h
theorem w2m {b : Nat} (h : b < 2305843009213693952) : IntKind.i64.wrap (2 * (b : Int)) = ((2 * b : Nat) : Int) := by rw [w64 (by omega) (by omega)]; omega
theorem wm2 {b : Nat} (h : b < 2305843009213693952) : IntKind.i64.wrap ((b : Int) * 2) = ((2 * b : Nat) : Int) := by rw [w64 (by omega) (by omega)]; omega
set_option maxHeartbeats 1600000 in
theorem c_slices_stable {α : Type} [Inhabited α] (S : SortOf α) (k ver : Nat) (l : List α) (len : Nat) (hll : l.length = len) (H : Heap) (n : Nat) (hk : k < n) (hH : H k = some (.arr ver 7 (l.map S.f))) (hc : CmpC S k H) (hl : len < 576460752303423488) :
    Ret Try.prog 82 [.osl k ver 0 len, .int .i64 len, cmpAV] H n (.tup []) (H.put k (some (.arr ver 7 ((stabL S.lt l).map S.f)))) n := by
  refine acalls_of_awp Try.func82 rfl Try.ntmps82 (congrArg Array.toList Try.results82) (by simp) ?_
  simp only [go_sem]
  refine awp_rq zs [0, 1, 2, 6] ?_
  refine awp_rq zs [0, 1, 2, 6, 7, 8] ?_
  refine awp_seq_k fun K1 hK1 => ?_
  refine awp_block ?_
  refine awp_loop (fun T' H' n' => ∃ (t : Nat), t ≤ len / 20 ∧ T' = tl [(0, .osl k ver 0 len), (1, .int .i64 len), (2, cmpAV), (6, .int .i64 (20 : Nat)), (7, .int .i64 (20 * t : Nat)), (8, .int .i64 (20 * t + 20 : Nat))] ∧ H' = H.put k (some (.arr ver 7 ((blkL S.lt l t).map S.f))) ∧ n' = n) (fun T' _ _ => len + 1 - iv (T' 8)) ?_ ?_
  ·skip
   exact ⟨0, by omega, rfl, by rw [blkL, put_id hH], rfl⟩
  intro T1 H1 n1
  rintro ⟨t, ht, rfl, rfl, rfl⟩
  refine awp_seq_k fun K2 hK2 => ?_
  refine awp_rq zs [0, 1, 2, 6, 7, 8, 13] ?_
  refine awp_cnd (fun hb => ?_) (fun hb => ?_)
  ·skip
   have hle : 20 * t + 20 ≤ len := by simp at hb; omega
   have v1 := wAdd (a := 20 * t + 20) (b := 20) (by omega)
   refine awp_skip ?_
   try simp only [go_sem, ↓reduceIte, Nat.reduceEqDiff, Nat.reduceLT, Nat.reduceSub, Nat.reduceAdd, Nat.reduceMul]
   refine hK2 _ _ _ ?_
   first | clear hK2 K2 | skip
   refine awp_block ?_
   refine awp_reg zs [0, 1, 2, 6, 8] fun K hK => ?_
   try simp only [go_sem, ↓reduceIte, Nat.reduceEqDiff, Nat.reduceLT, Nat.reduceSub, Nat.reduceAdd, Nat.reduceMul]
   repeat refine peel ?_
   refine callK_use Try.func86 rfl rfl rfl ((c_slices_insertion S k ver (blkL S.lt l t) len (by rw [blkL_length, hll]) (20 * t) (20 * t + 20) _ _ hk (Heap.put_same _ _ _) (hc.put _) (by omega) (by omega) (by omega))) ?_
   try simp only [go_sem, ↓reduceIte, Nat.reduceEqDiff, Nat.reduceLT, Nat.reduceSub, Nat.reduceAdd, Nat.reduceMul]
   repeat refine peel ?_
   refine hK _ _ _ ?_; clear hK K
   refine awp_rq zs [0, 1, 2, 6, 7, 8] ?_
   refine awp_reg1 zs [0, 1, 2, 6, 7, 8] fun K hK => ?_
   try simp only [go_sem, ↓reduceIte, Nat.reduceEqDiff, Nat.reduceLT, Nat.reduceSub, Nat.reduceAdd, Nat.reduceMul, v1]
   repeat refine peel ?_
   refine hK _ _ _ ?_; clear hK K
   try simp only [go_sem, ↓reduceIte, Nat.reduceEqDiff, Nat.reduceLT, Nat.reduceSub, Nat.reduceAdd, Nat.reduceMul]
   refine ⟨⟨t + 1, by omega, rfl, by rw [blkL, show 20 * t + 20 - 20 * t - 1 = 19 by omega]⟩, by simp only [iv_int, Int.toNat_natCast]; omega⟩
  ·skip
   have hge : ¬ 20 * t + 20 ≤ len := by simp at hb; omega
   have h20 : len / 20 = t := by omega
   refine awp_exit ?_
   try simp only [go_sem, ↓reduceIte, Nat.reduceEqDiff, Nat.reduceLT, Nat.reduceSub, Nat.reduceAdd, Nat.reduceMul]
   refine hK1 _ _ _ ?_
   first | clear hK1 K1 | skip
   refine awp_reg zs [0, 1, 2, 6] fun K hK => ?_
   try simp only [go_sem, ↓reduceIte, Nat.reduceEqDiff, Nat.reduceLT, Nat.reduceSub, Nat.reduceAdd, Nat.reduceMul]
   repeat refine peel ?_
   refine callK_use Try.func86 rfl rfl rfl ((c_slices_insertion S k ver (blkL S.lt l t) len (by rw [blkL_length, hll]) (20 * t) len _ _ hk (Heap.put_same _ _ _) (hc.put _) (by omega) (by omega) (by omega))) ?_
   try simp only [go_sem, ↓reduceIte, Nat.reduceEqDiff, Nat.reduceLT, Nat.reduceSub, Nat.reduceAdd, Nat.reduceMul]
   repeat refine peel ?_
   refine hK _ _ _ ?_; clear hK K
   refine awp_block ?_
   refine awp_loop (fun T' H' n' => ∃ (c bs : Nat) (l1 : List α), 20 ≤ bs ∧ bs < 1152921504606846976 ∧ len ≤ bs + c ∧ l1.length = len ∧ T' = tl [(0, .osl k ver 0 len), (1, .int .i64 len), (2, cmpAV), (6, .int .i64 bs)] ∧ H' = H.put k (some (.arr ver 7 (l1.map S.f))) ∧ n' = n1 ∧ outL S.lt len c l1 bs = stabL S.lt l) (fun T' _ _ => len - iv (T' 6)) ?_ ?_
   ·skip
    refine ⟨len, 20, _, by omega, by omega, by omega, ?_, rfl, rfl, rfl, ?_⟩
    · rw [insN_length, blkL_length, hll]
    · rw [stabL, hll, h20]
   intro T1 H1 n1
   rintro ⟨c, bs, l1, hb1, hb2, hlc, hll1, rfl, rfl, rfl, hr⟩
   refine awp_seq_k fun K3 hK3 => ?_
   refine awp_rq zs [0, 1, 2, 6, 30] ?_
   refine awp_cnd (fun hb => ?_) (fun hb => ?_)
   ·skip
    have hlt : bs < len := by simpa using hb
    obtain ⟨c', rfl⟩ : ∃ c', c = c' + 1 := ⟨c - 1, by omega⟩
    rw [outL, if_pos hlt] at hr
    have v2 := w2m (b := bs) (by omega)
    refine awp_skip ?_
    try simp only [go_sem, ↓reduceIte, Nat.reduceEqDiff, Nat.reduceLT, Nat.reduceSub, Nat.reduceAdd, Nat.reduceMul]
    refine hK3 _ _ _ ?_
    first | clear hK3 K3 | skip
    refine awp_block ?_
    refine awp_reg zs [0, 1, 2, 6, 7, 8] fun K hK => ?_
    try simp only [go_sem, ↓reduceIte, Nat.reduceEqDiff, Nat.reduceLT, Nat.reduceSub, Nat.reduceAdd, Nat.reduceMul, v2]
    repeat refine peel ?_
    refine hK _ _ _ ?_; clear hK K
    refine awp_seq_k fun K4 hK4 => ?_
    refine awp_block ?_
    refine awp_loop (fun T' H' n' => ∃ (t : Nat), t ≤ len / (2 * bs) ∧ 2 * bs * t ≤ len ∧ T' = tl [(0, .osl k ver 0 len), (1, .int .i64 len), (2, cmpAV), (6, .int .i64 bs), (7, .int .i64 (2 * bs * t : Nat)), (8, .int .i64 (2 * bs * t + 2 * bs : Nat))] ∧ H' = H.put k (some (.arr ver 7 ((mrgL S.lt l1 bs t).map S.f))) ∧ n' = n1) (fun T' _ _ => len + 1 - iv (T' 8)) ?_ ?_
    ·skip
     exact ⟨0, Nat.zero_le _, by omega, by rw [Nat.mul_zero, Nat.zero_add]; rfl, rfl, rfl⟩
    intro T1 H1 n1
    rintro ⟨t, ht2, htl, rfl, rfl, rfl⟩
    refine awp_seq_k fun K5 hK5 => ?_
    refine awp_rq zs [0, 1, 2, 6, 7, 8, 35] ?_
    refine awp_cnd (fun hb => ?_) (fun hb => ?_)
    ·skip
     have hle : 2 * bs * t + 2 * bs ≤ len := Int.ofNat_le.1 (of_decide_eq_true hb)
     have v3 := wAdd (a := 2 * bs * t) (b := bs) (by omega)
     have v4 := wAdd (a := 2 * bs * t + 2 * bs) (b := 2 * bs) (by omega)
     have v5 := div_hi hle (by omega)
     refine awp_skip ?_
     try simp only [go_sem, ↓reduceIte, Nat.reduceEqDiff, Nat.reduceLT, Nat.reduceSub, Nat.reduceAdd, Nat.reduceMul]
     refine hK5 _ _ _ ?_
     first | clear hK5 K5 | skip
     refine awp_block ?_
     refine awp_reg zs [0, 1, 2, 6, 8] fun K hK => ?_
     try simp only [go_sem, ↓reduceIte, Nat.reduceEqDiff, Nat.reduceLT, Nat.reduceSub, Nat.reduceAdd, Nat.reduceMul, v3]
     repeat refine peel ?_
     refine callK_use Try.func87 rfl rfl rfl ((c_slices_symMerge S (2 * bs) k ver (mrgL S.lt l1 bs t) len (by rw [mrgL_length, hll1]) (2 * bs * t) (2 * bs * t + bs) (2 * bs * t + 2 * bs) _ _ hk (Heap.put_same _ _ _) (hc.put _) (by omega) (by omega) (by omega) (by omega) (by omega))) ?_
     try simp only [go_sem, ↓reduceIte, Nat.reduceEqDiff, Nat.reduceLT, Nat.reduceSub, Nat.reduceAdd, Nat.reduceMul, v3]
     repeat refine peel ?_
     refine hK _ _ _ ?_; clear hK K
     refine awp_rq zs [0, 1, 2, 6, 7, 8] ?_
     refine awp_reg1 zs [0, 1, 2, 6, 7, 8] fun K hK => ?_
     try simp only [go_sem, ↓reduceIte, Nat.reduceEqDiff, Nat.reduceLT, Nat.reduceSub, Nat.reduceAdd, Nat.reduceMul, v2, v4]
     repeat refine peel ?_
     refine hK _ _ _ ?_; clear hK K
     try simp only [go_sem, ↓reduceIte, Nat.reduceEqDiff, Nat.reduceLT, Nat.reduceSub, Nat.reduceAdd, Nat.reduceMul]
     refine ⟨⟨t + 1, v5, by rw [mrg_mul]; omega, by rw [mrg_mul], by rw [mrgL]⟩, by simp only [iv_int, Int.toNat_natCast]; omega⟩
    ·skip
     have hge : ¬ 2 * bs * t + 2 * bs ≤ len := fun h => of_decide_eq_false hb (Int.ofNat_le.2 h)
     have hdt := div_lo hge ht2 (by omega)
     have v3 := wAdd (a := 2 * bs * t) (b := bs) (by omega)
     have v6 := wm2 (b := bs) (by omega)
     refine awp_exit ?_
     try simp only [go_sem, ↓reduceIte, Nat.reduceEqDiff, Nat.reduceLT, Nat.reduceSub, Nat.reduceAdd, Nat.reduceMul]
     refine hK4 _ _ _ ?_
     first | clear hK4 K4 | skip
     refine awp_seq_k fun K6 hK6 => ?_
     refine awp_reg zs [0, 1, 2, 6, 7, 9] fun K hK => ?_
     try simp only [go_sem, ↓reduceIte, Nat.reduceEqDiff, Nat.reduceLT, Nat.reduceSub, Nat.reduceAdd, Nat.reduceMul, v3]
     repeat refine peel ?_
     refine hK _ _ _ ?_; clear hK K
     refine awp_rq zs [0, 1, 2, 6, 7, 9, 54] ?_
     refine awp_cnd (fun hb => ?_) (fun hb => ?_)
     ·skip
      have hlt2 : 2 * bs * t + bs < len := Int.ofNat_lt.1 (of_decide_eq_true hb)
      refine awp_reg1 zs [0, 1, 2, 6] fun K hK => ?_
      try simp only [go_sem, ↓reduceIte, Nat.reduceEqDiff, Nat.reduceLT, Nat.reduceSub, Nat.reduceAdd, Nat.reduceMul]
      repeat refine peel ?_
      refine callK_use Try.func87 rfl rfl rfl ((c_slices_symMerge S (len - 2 * bs * t) k ver (mrgL S.lt l1 bs t) len (by rw [mrgL_length, hll1]) (2 * bs * t) (2 * bs * t + bs) len _ _ hk (Heap.put_same _ _ _) (hc.put _) (by omega) (by omega) (by omega) (by omega) (by omega))) ?_
      try simp only [go_sem, ↓reduceIte, Nat.reduceEqDiff, Nat.reduceLT, Nat.reduceSub, Nat.reduceAdd, Nat.reduceMul]
      repeat refine peel ?_
      refine hK _ _ _ ?_; clear hK K
      try simp only [go_sem, ↓reduceIte, Nat.reduceEqDiff, Nat.reduceLT, Nat.reduceSub, Nat.reduceAdd, Nat.reduceMul]
      refine hK6 _ _ _ ?_
      first | clear hK6 K6 | skip
      refine awp_reg1 zs [0, 1, 2, 6] fun K hK => ?_
      try simp only [go_sem, ↓reduceIte, Nat.reduceEqDiff, Nat.reduceLT, Nat.reduceSub, Nat.reduceAdd, Nat.reduceMul, v6]
      repeat refine peel ?_
      refine hK _ _ _ ?_; clear hK K
      try simp only [go_sem, ↓reduceIte, Nat.reduceEqDiff, Nat.reduceLT, Nat.reduceSub, Nat.reduceAdd, Nat.reduceMul]
      refine ⟨⟨c', 2 * bs, passL S.lt l1 bs len, by omega, by omega, by omega, by rw [passL_length, hll1], rfl, ?_, hr⟩, by simp only [iv_int, Int.toNat_natCast]; omega⟩
      rw [passL, hdt]
      first | rw [if_pos hlt2] | rw [if_neg hlt2]
     ·skip
      have hlt2 : ¬ 2 * bs * t + bs < len := fun h => of_decide_eq_false hb (Int.ofNat_lt.2 h)
      refine awp_skip ?_
      try simp only [go_sem, ↓reduceIte, Nat.reduceEqDiff, Nat.reduceLT, Nat.reduceSub, Nat.reduceAdd, Nat.reduceMul]
      refine hK6 _ _ _ ?_
      first | clear hK6 K6 | skip
      refine awp_reg1 zs [0, 1, 2, 6] fun K hK => ?_
      try simp only [go_sem, ↓reduceIte, Nat.reduceEqDiff, Nat.reduceLT, Nat.reduceSub, Nat.reduceAdd, Nat.reduceMul, v6]
      repeat refine peel ?_
      refine hK _ _ _ ?_; clear hK K
      try simp only [go_sem, ↓reduceIte, Nat.reduceEqDiff, Nat.reduceLT, Nat.reduceSub, Nat.reduceAdd, Nat.reduceMul]
      refine ⟨⟨c', 2 * bs, passL S.lt l1 bs len, by omega, by omega, by omega, by rw [passL_length, hll1], rfl, ?_, hr⟩, by simp only [iv_int, Int.toNat_natCast]; omega⟩
      rw [passL, hdt]
      first | rw [if_pos hlt2] | rw [if_neg hlt2]
   ·skip
    have hge : ¬ bs < len := by simpa using hb
    refine awp_exit ?_
    try simp only [go_sem, ↓reduceIte, Nat.reduceEqDiff, Nat.reduceLT, Nat.reduceSub, Nat.reduceAdd, Nat.reduceMul]
    rw [← hr]; cases c with | zero => rfl | succ c => rw [outL, if_neg hge]
theorem c_slices_SortStable {α : Type} [Inhabited α] (S : SortOf α) (k ver : Nat) (l : List α) (len : Nat) (hll : l.length = len) (H : Heap) (n : Nat) (hk : k < n) (hH : H k = some (.arr ver 7 (l.map S.f))) (hc : CmpC S k H) (hl : len < 576460752303423488) :
    Ret Try.prog 68 [.osl k ver 0 len, cmpAV] H n (.tup []) (H.put k (some (.arr ver 7 ((stabL S.lt l).map S.f)))) n := by
  refine acalls_of_awp Try.func68 rfl Try.ntmps68 (congrArg Array.toList Try.results68) (by simp) ?_
  simp only [go_sem]
  refine awp_reg1 zs [] fun K hK => ?_
  try simp only [go_sem, seval]
  repeat refine peel ?_
  refine callK_use Try.func82 rfl rfl rfl ((c_slices_stable S k ver l len hll _ _ hk hH hc hl)) ?_
  try simp only [go_sem, seval]
  repeat refine peel ?_
  refine hK _ _ _ ?_; clear hK K
  try simp only [go_sem, seval]
  try simp only [go_sem, seval]
end Go.Proofs.Ytijhkfhflpmajaa
namespace Go.Rt
open Go Go.Sx
structure COK {α : Type} (c : α → α → Int) : Prop where
  anti : ∀ a b, c a b < 0 ↔ 0 < c b a
  tr : ∀ a b d, c a b ≤ 0 → c b d ≤ 0 → c a d ≤ 0
section
variable {α : Type} {c d : α → α → Int}
theorem COK.zs (h : COK c) {a b : α} (h0 : c a b = 0) : c b a = 0 := by
  have h1 := h.anti a b; have h2 := h.anti b a; omega
theorem COK.refl (h : COK c) (a : α) : c a a = 0 := by
  have h1 := h.anti a a; omega
theorem COK.neg (h : COK c) {a b : α} (h0 : c a b ≤ 0) : 0 ≤ c b a := by
  have h1 := h.anti a b; have h2 := h.anti b a; omega
theorem COK.pos (h : COK c) {a b : α} (h0 : 0 ≤ c a b) : c b a ≤ 0 := by
  have h1 := h.anti a b; have h2 := h.anti b a; omega
theorem COK.lt_le (h : COK c) {a b e : α} (h1 : c a b < 0) (h2 : c b e ≤ 0) : c a e < 0 := by
  have h3 := h.tr a b e (by omega) h2
  rcases Int.lt_or_eq_of_le h3 with h4 | h4
  · exact h4
  · have h5 := h.zs h4
    have h6 := h.tr b e a h2 (by omega)
    have := (h.anti a b).1 h1; omega
theorem COK.le_lt (h : COK c) {a b e : α} (h1 : c a b ≤ 0) (h2 : c b e < 0) : c a e < 0 := by
  have h3 := h.tr a b e h1 (by omega)
  rcases Int.lt_or_eq_of_le h3 with h4 | h4
  · exact h4
  · have h5 := h.zs h4
    have h6 := h.tr e a b (by omega) h1
    have := (h.anti b e).1 h2; omega
theorem COK.zz (h : COK c) {a b e : α} (h1 : c a b = 0) (h2 : c b e = 0) : c a e = 0 := by
  have h3 := h.tr a b e (by omega) (by omega)
  have h4 := h.tr e b a (by have := h.zs h2; omega) (by have := h.zs h1; omega)
  have := h.neg h4; omega
def thenC (c d : α → α → Int) (a b : α) : Int := if c a b ≠ 0 then c a b else d a b
theorem COK.then (hc : COK c) (hd : COK d) : COK (thenC c d) where
  anti := fun a b => by
    unfold thenC
    have h1 := hc.anti a b; have h2 := hc.anti b a; have h3 := hd.anti a b
    by_cases h : c a b = 0
    · have h' := hc.zs h
      simp [h, h', h3]
    · have h' : c b a ≠ 0 := fun e => h (hc.zs e)
      simp [h, h', h1]
  tr := fun a b e h1 h2 => by
    unfold thenC at *
    by_cases ha : c a b = 0
    · rw [if_neg (by simp [ha])] at h1
      by_cases hb : c b e = 0
      · rw [if_neg (by simp [hb])] at h2
        rw [if_neg (by simp [hc.zz ha hb])]
        exact hd.tr _ _ _ h1 h2
      · rw [if_pos hb] at h2
        have := hc.le_lt (a := a) (b := b) (e := e) (by omega) (by omega)
        rw [if_pos (by omega)]; omega
    · rw [if_pos ha] at h1
      have h2' : c b e ≤ 0 := by
        by_cases hb : c b e = 0
        · omega
        · rw [if_pos hb] at h2; exact h2
      have := hc.lt_le (a := a) (b := b) (e := e) (by omega) h2'
      rw [if_pos (by omega)]; omega
theorem COK.on {β : Type} {f : β → α} (h : COK c) : COK fun a b => c (f a) (f b) := ⟨fun a b => h.anti _ _, fun a b e => h.tr _ _ _⟩
theorem COK.flip (h : COK c) : COK fun a b => c b a := ⟨fun a b => by have h1 := h.anti b a; have h2 := h.anti a b; omega, fun a b e h1 h2 => h.tr _ _ _ h2 h1⟩
end
theorem cok_cmpI : COK cmpI where
  anti := fun a b => by unfold cmpI; repeat' split
                        all_goals omega
  tr := fun a b e => by unfold cmpI; repeat' split
                        all_goals omega
theorem cok_first (k : Int) : COK (firstI k) where
  anti := fun a b => by unfold firstI; repeat' split
                        all_goals omega
  tr := fun a b e => by unfold firstI; repeat' split
                        all_goals omega
theorem cb_cons (a b : UInt8) (az bs : List UInt8) : Lib.compareBytes (a :: az) (b :: bs) = if a < b then -1 else if b < a then 1 else Lib.compareBytes az bs := rfl
theorem cb_anti : ∀ (a b : List UInt8), Lib.compareBytes a b < 0 ↔ 0 < Lib.compareBytes b a
  | [], [] => by decide
  | [], _ :: _ => by simp [Lib.compareBytes]
  | _ :: _, [] => by simp [Lib.compareBytes]
  | a :: az, b :: bs => by
    rw [cb_cons, cb_cons]
    have := cb_anti az bs
    by_cases h1 : a < b
    · have h2 : ¬ b < a := by simp only [UInt8.lt_iff_toNat_lt] at *; omega
      simp [h1, h2]
    · by_cases h2 : b < a
      · simp [h1, h2]
      · simp [h1, h2, this]
theorem cb_tr : ∀ (a b c : List UInt8), Lib.compareBytes a b ≤ 0 → Lib.compareBytes b c ≤ 0 → Lib.compareBytes a c ≤ 0
  | [], _, [] => fun _ _ => by decide
  | [], _, _ :: _ => fun _ _ => by simp [Lib.compareBytes]
  | _ :: _, [], _ => fun h => by simp [Lib.compareBytes] at h
  | _ :: _, _ :: _, [] => fun _ h => by simp [Lib.compareBytes] at h
  | a :: az, b :: bs, c :: cs => fun h1 h2 => by
    rw [cb_cons] at *
    have ih := cb_tr az bs cs
    simp only [UInt8.lt_iff_toNat_lt] at *
    repeat' split at h1
    all_goals repeat' split at h2
    all_goals repeat' split
    all_goals first | omega | exact ih h1 h2 | skip
theorem cok_bytes : COK Lib.compareBytes := ⟨cb_anti, cb_tr⟩
theorem cb_zero : ∀ (a b : List UInt8), Lib.compareBytes a b = 0 ↔ a = b
  | [], [] => by decide
  | [], _ :: _ => by simp [Lib.compareBytes]
  | _ :: _, [] => by simp [Lib.compareBytes]
  | a :: az, b :: bs => by
    rw [cb_cons]
    have := cb_zero az bs
    by_cases h1 : a < b
    · have h2 : a ≠ b := fun e => by subst e; simp only [UInt8.lt_iff_toNat_lt] at h1; omega
      simp [h1, h2]
    · by_cases h2 : b < a
      · have h3 : a ≠ b := fun e => by subst e; simp only [UInt8.lt_iff_toNat_lt] at h2; omega
        simp [h1, h2, h3]
      · have h3 : a = b := by
          apply UInt8.toNat_inj.1; simp only [UInt8.lt_iff_toNat_lt] at h1 h2; omega
        simp [h1, h2, h3, this]
theorem cmpI_zero (x y : Int) : cmpI x y = 0 ↔ x = y := by unfold cmpI; repeat' split
                                                           all_goals omega
theorem cok_step (i : Nat) : COK (stepE i) := by
  match i with
  | 0 => exact cok_bytes.on (f := Ent.row)
  | 1 => exact cok_cmpI.on (f := Ent.fam)
  | 2 => exact cok_first 5
  | 3 => exact cok_bytes.on (f := Ent.qual)
  | 4 => exact cok_first 4
  | 5 => exact (cok_cmpI.on (f := Ent.ts)).flip
  | 6 => exact (cok_cmpI.on (f := Ent.seq)).flip
  | 7 => exact cok_cmpI.on (f := Ent.kind)
  | _ + 8 => exact ⟨fun a b => by show (0 : Int) < 0 ↔ (0 : Int) < 0; omega, fun a b e _ _ => Int.le_refl _⟩
theorem cok_from : ∀ k, COK fun a b => compFrom a b k
  | 0 => ⟨fun a b => by show (0 : Int) < 0 ↔ (0 : Int) < 0; omega, fun a b e _ _ => Int.le_refl _⟩
  | k + 1 => (cok_step (7 - k)).then (cok_from k)
theorem cok_comp : COK compE := cok_from 8
theorem ord_ltE : Ord ltE where
  tr := fun x y z h1 h2 => by
    simp only [ltE, decide_eq_false_iff_not, Int.not_lt] at *
    exact cok_comp.neg (cok_comp.tr _ _ _ (cok_comp.pos h1) (cok_comp.pos h2))
  asym := fun x y h => by
    simp only [ltE, decide_eq_false_iff_not, decide_eq_true_eq, Int.not_lt] at *
    exact cok_comp.neg (by omega)
theorem stabL_perm (l : List Ent) : (stabL ltE l).Perm l := (stabL_ok ord_ltE l).2
theorem stabL_srt (l : List Ent) : Srt ltE (stabL ltE l) := (stabL_ok ord_ltE l).1
theorem stabL_mem (l : List Ent) (e : Ent) : e ∈ stabL ltE l ↔ e ∈ l := (stabL_perm l).mem_iff
theorem comp_zero_seq {a b : Ent} (h : compE a b = 0) : a.seq = b.seq := by
  rw [show compE a b = thenC (stepE 0) (thenC (stepE 1) (thenC (stepE 2) (thenC (stepE 3) (thenC (stepE 4) (thenC (stepE 5) (thenC (stepE 6) (thenC (stepE 7) fun _ _ => 0))))))) a b from rfl] at h
  simp only [thenC] at h
  by_cases h0 : stepE 0 a b = 0
  · by_cases h1 : stepE 1 a b = 0
    · by_cases h2 : stepE 2 a b = 0
      · by_cases h3 : stepE 3 a b = 0
        · by_cases h4 : stepE 4 a b = 0
          · by_cases h5 : stepE 5 a b = 0
            · by_cases h6 : stepE 6 a b = 0
              · exact ((cmpI_zero _ _).1 h6).symm
              · simp [h0, h1, h2, h3, h4, h5, h6] at h
            · simp [h0, h1, h2, h3, h4, h5] at h
          · simp [h0, h1, h2, h3, h4] at h
        · simp [h0, h1, h2, h3] at h
      · simp [h0, h1, h2] at h
    · simp [h0, h1] at h
  · simp [h0] at h
theorem seqOf_some {acc : List Ent} {k : Int} {x : Ent} (h : seqOf acc k = some x) : x ∈ acc ∧ x.seq = k := by
  unfold seqOf at h
  exact ⟨List.mem_of_find?_eq_some h, by simpa using List.find?_some h⟩
theorem seqOf_none {acc : List Ent} {k : Int} (h : seqOf acc k = none) : ∀ x ∈ acc, x.seq ≠ k := by
  unfold seqOf at h
  intro x hx
  have := List.find?_eq_none.1 h x hx
  simpa using this
theorem srt_unique {l m : List Ent} (hl : Srt ltE l) (hm : Srt ltE m) (hp : l.Perm m) (hs : (l.map (·.seq)).Nodup) : l = m := by
  refine List.Perm.eq_of_pairwise (le := fun x y => ltE y x = false) (fun a b ha hb h1 h2 => ?_) hl hm hp
  have hb : b ∈ l := hp.mem_iff.2 hb
  have hz : compE a b = 0 := by
    simp only [ltE, decide_eq_false_iff_not, Int.not_lt] at h1 h2
    have := cok_comp.pos h1
    omega
  have hseq := comp_zero_seq hz
  clear h1 h2 hz hl hm hp
  induction l with
  | nil => cases ha
  | cons x l ih =>
    simp only [List.map_cons, List.nodup_cons, List.mem_map] at hs
    rcases List.mem_cons.1 ha with e1 | ha'
    · rcases List.mem_cons.1 hb with e2 | hb'
      · rw [e1, e2]
      · exact absurd ⟨b, hb', by rw [← e1]; exact hseq.symm⟩ hs.1
    · rcases List.mem_cons.1 hb with e2 | hb'
      · exact absurd ⟨a, ha', by rw [← e2]; exact hseq⟩ hs.1
      · exact ih hs.2 ha' hb'
end Go.Rt
namespace Go.Sx
open Go
end Go.Sx
namespace Go.Sx
open Go
def AV.bare : AV → Prop
  | .int _ _ => True
  | .bool _ => True
  | _ => False
theorem AV.bare.rel {a : AV} (h : a.bare) {c c' : Ctx} {m : Bool} {cs : List Value} (hr : Rel c a m cs) : Rel c' a m cs := by
  cases a <;> simp only [AV.bare] at h <;> (cases m <;> simpa only [Rel] using hr)
theorem Sim.frz0 {c : Ctx} {H : Heap} {n : Nat} {w : World} (hs : Sim c H n w) : Sim (c.frz H 0 w) (fun _ => none) 0 w where
  ro := fun b a hb => by
    simp only [Ctx.frz] at hb
    split at hb
    · rename_i a' hr; cases hb; exact hs.ro b _ hr
    · split at hb
      · split at hb
        · rename_i _ _ hw; cases hb; exact ⟨_, _, hw⟩
        · simp at hb
      · simp at hb
  own := fun k o hk => by simp at hk
  sep := fun k o b hk => by simp at hk
  inj := fun k k' o o' b hk => by simp at hk
  fresh := fun k _ => ⟨rfl, fun v => by show (if k < 0 then c.ρ k v else none) = none; rw [if_neg (by omega)]⟩
  vers := fun k o v hk => by simp at hk
theorem Ret.lend {P : Program} {f : FuncId} {args args' : List AV} {H : Heap} {n : Nat} {r : AV} (hb : r.bare) (hL : FrzL H 0 args args') (h : Ret P f args' (fun _ => none) 0 r (fun _ => none) 0) : Ret P f args H n r H n :=
  fun c w vs hs hr => (h (c.frz H 0 w) w vs hs.frz0 (FrzL.relT hs hL hr)).mono fun e w' ⟨res, c', H', n', ⟨hres, hH, hn⟩, hst, hm⟩ => by
    subst hres; subst hH; subst hn
    have hkeep : ∀ b, b < w.heap.size → w'.heap[b]? = w.heap[b]? := fun b hb => hst.fr.keep b hb fun ⟨k, o, hk, _⟩ => by simp at hk
    refine ⟨.val r, c, H, n, ⟨rfl, rfl, rfl⟩, ?_, ?_⟩
    · exact {
        le := .refl _
        sim := {
          ro := fun b a hb => by
            obtain ⟨ty, fr, hw⟩ := hs.ro b a hb
            refine ⟨ty, fr, ?_⟩
            rw [hkeep b ?_]
            · exact hw
            · rcases Nat.lt_or_ge b w.heap.size with h | h
              · exact h
              · rw [Array.getElem?_eq_none h] at hw; simp at hw
          own := fun k o hk => (hs.own k o hk).mono (.refl _) fun b hb => hkeep b ((hs.own k o hk).lt hb)
          sep := hs.sep
          inj := hs.inj
          fresh := hs.fresh
          vers := hs.vers }
        fr := { os := hst.fr.os, tape := hst.fr.tape, output := hst.fr.output, size := hst.fr.size, keep := fun b hb _ => hkeep b hb }
        new := fun b hb => .inl hb }
    · cases e with
      | returned v => exact hb.rel hm
      | panicked _ => exact hm.elim
      | outgrown => exact hm.elim
end Go.Sx
namespace Go.Sx
open Go
def AppO (ver off len s by' : Nat) (kk : Nat) (H : Heap) (n : Nat) (C : Prop) (eo : Option Nat) (ys : List AV) (k : AV → Heap → Nat → Prop) : Option AObj → Prop
  | some (.arr ver' esz els) => (ver = ver' ∧ off = 0 ∧ len = els.length ∧ esz = s ∧ C ∧ (eo = none ∨ eo = some s) ∧ 0 < ys.length ∧ (len + ys.length) * by' ≤ 140737488355328 ∧ len + ys.length ≤ 4611686018427387904) ∧
      k (.osl kk ver 0 (len + ys.length)) (H.put kk (some (.arr ver esz (els ++ ys)))) n ∧ k (.osl n 0 0 (len + ys.length)) (H.put n (some (.arr 0 esz (els ++ ys)))) (n + 1)
  | _ => False
def AppD (H : Heap) (n : Nat) (k : AV → Heap → Nat → Prop) : AV → Option (Nat × Nat) → Option (Prop × Option Nat × List AV) → Prop
  | .nilsl, some (s, by'), some (C, eo, ys) => (C ∧ (eo = none ∨ eo = some s) ∧ ys.length * by' ≤ 140737488355328 ∧ ys.length ≤ 4611686018427387904) ∧ k (.osl n 0 0 ys.length) (H.put n (some (.arr 0 s ys))) (n + 1)
  | .osl kk ver off len, some (s, by'), some (C, eo, ys) => AppO ver off len s by' kk H n C eo ys k (H kk)
  | _, _, _ => False
theorem ot_appD {P : Program} {H : Heap} {n : Nat} {dst : Option Tmp} {t : TypeId} {x y : Operand} {ty : TypeId} {pos : String} {after : Array Edge} {guard : Option (Nat × Bool)} {ε : Operand → AV} {k : AV → Heap → Nat → Prop}
    (h : AppD H n k (ε x) (tEl P t) (slcO H (ε y))) : OpT P ⟨dst, .call ⟨.builtin .append, #[x, y], #[t, t]⟩, ty, pos, after, guard⟩ ε H n (fun res H' n' => match res with | .val r => k r H' n' | .pan _ => False) :=
  OpT.of_run fun c w ρv hs hr => by
    have hx := hr x (by simp [Op.operands, Call.operands])
    have hy := hr y (by simp [Op.operands, Call.operands])
    have hexec : ∀ v w', (Builtin.append_ #[t, t] ty #[ρv x, ρv y]).run P w = .ok v w' → (execOp ρv ⟨dst, .call ⟨.builtin .append, #[x, y], #[t, t]⟩, ty, pos, after, guard⟩).run P w = .ok (.value v) w' := fun v w' hh => by
      simp [execOp, resolve, invoke, builtin, hh]
    generalize ε x = xa at h hx
    cases ht : tEl P t with
    | none => rw [ht] at h; cases xa <;> simp [AppD] at h
    | some sb =>
    obtain ⟨s, by'⟩ := sb
    cases hsl : slcO H (ε y) with
    | none => rw [hsl, ht] at h; cases xa <;> simp [AppD] at h
    | some q =>
    obtain ⟨Cy, eo, ys⟩ := q
    rw [hsl, ht] at h
    obtain ⟨e, i, z, hu, hi, hz, hzs, hpos, hsz, hby⟩ := tEl_spec ht
    have hyzG : ∀ (c2 : eo = none ∨ eo = some s) (hzz : ∀ x ∈ ys, ∀ e, eo = some e → x.sz = e), ∀ u ∈ ys, u.sz = s := fun c2 hzz u hu => by
      rcases c2 with c2 | c2
      · subst c2
        unfold slcO at hsl
        split at hsl
        · simp at hsl; rw [hsl.2] at hu; simp at hu
        · simp at hsl
        · unfold slcO.slcA at hsl; split at hsl <;> simp at hsl
        · simp at hsl
      · exact hzz u hu s c2
    cases xa <;> simp only [AppD] at h
    · -- the nil slice
      obtain ⟨⟨c1, c2, c3, c4⟩, hK⟩ := h
      obtain ⟨a, cap, ds, ev, hrf, hzz, hcase⟩ := slcO_spec hs hy hsl c1
      simp only [Rel, List.cons.injEq, and_true] at hx
      have hyz := hyzG c2 hzz
      have hdl : ds.length = ys.length * i.size := by rw [(RelF.len _ _ hrf).1, AV.szs_uniform hyz, hsz]
      by_cases h0 : ys = []
      · subst h0
        refine ⟨_, .slice none 0 0, _, _, _, w, .inl (hexec _ _ ?_), Step.newNil hs s, ?_, hK⟩
        · rw [hx, ev]; exact run_append_zero hu hi none a 0 0 cap (Nat.le_refl _)
        · simp only [Rel]; exact ⟨.nil, Ctx.addLoc_same, by simp⟩
      · obtain ⟨ad, rfl, hcells⟩ := hcase.resolve_left (fun h => h0 h.2)
        have hlen : 0 < ys.length := List.length_pos_iff.2 h0
        have hrun := run_append_nil (P := P) w t ty e i z hu hi hz ad ys.length cap ds hdl hcells hlen (by omega) (by rw [hby]; omega)
        have hgc := grownCap_ge w ys.length 0 e
        have hst := Step.newOwn (Step.drewAlloc hs) (ds.toArray ++ Builtin.zeroCells z.cells (grownCap w ys.length 0 e - ys.length)) e (grownCap w ys.length 0 e) s ys ds hyz hgc
          (by simp only [Array.size_append, List.size_toArray, size_zeroCells, hzs, hdl, hsz]; rw [← Nat.add_mul]; congr 1; omega) hrf (At.zero.2 ⟨_, by simp; rfl⟩)
        refine ⟨_, _, _, _, _, _, .inl (hexec _ _ (by rw [hx, ev]; exact hrun)), (Step.drew hs).trans hst, ?_, hK⟩
        simp only [Rel]
        exact ⟨_, Ctx.addLoc_same, grownCap w ys.length 0 e, 0, hgc, by simp, .inr (by simp), rfl⟩
    · -- an owned slice
      rename_i kk ver off len
      unfold AppO at h
      split at h
      · rename_i ver' esz els hk
        obtain ⟨⟨d1, d2, d3, d4, c1, c2, c0, c3, c4⟩, hK1, hK2⟩ := h
        subst d1; subst d2; subst d4; subst d3
        obtain ⟨a, cap, ds, ev, hrf, hzz, hcase⟩ := slcO_spec hs hy hsl c1
        have hyz := hyzG c2 hzz
        have hdl : ds.length = ys.length * i.size := by rw [(RelF.len _ _ hrf).1, AV.szs_uniform hyz, hsz]
        simp only [Rel, List.cons.injEq, and_true] at hx
        obtain ⟨l, hl, hm⟩ := hx
        have ho := hs.own kk _ hk
        simp only [OwnOK] at ho
        obtain ⟨l', hl', hm'⟩ := ho
        rw [hl] at hl'; cases hl'
        have hys0 : ys ≠ [] := fun h => by rw [h] at c0; simp at c0
        obtain ⟨ad, rfl, hcells⟩ := hcase.resolve_left (fun h => hys0 h.2)
        have helems : ∀ u ∈ els ++ ys, u.sz = esz := fun u hu => by
          rcases List.mem_append.1 hu with h | h
          · cases l with
            | nil => simp only at hm'; subst hm'; simp at h
            | blk b cp e' => exact hm'.2.1 u h
          · exact hyz u h
        have hlen' : (els ++ ys).length = els.length + ys.length := by simp
        cases l with
        | nil =>
          obtain ⟨_, h2, evx⟩ := hm
          simp only at hm'
          subst hm'
          have hrun := run_append_nil (P := P) w t ty e i z hu hi hz ad ys.length cap ds hdl hcells c0 (by simp at c4; omega) (by rw [hby]; simp at c3; omega)
          have hgc := grownCap_ge w ys.length 0 e
          have hst := Step.newOwn (Step.drewAlloc hs) (ds.toArray ++ Builtin.zeroCells z.cells (grownCap w ys.length 0 e - ys.length)) e (grownCap w ys.length 0 e) esz (([] : List AV) ++ ys) ds (by simpa using hyz) (by simpa using hgc)
            (by simp only [Array.size_append, List.size_toArray, size_zeroCells, hzs, hdl, hsz]; rw [← Nat.add_mul]; congr 1; omega) (by simpa using hrf) (At.zero.2 ⟨_, by simp; rfl⟩)
          refine ⟨_, _, _, _, _, _, .inl (hexec _ _ (by rw [evx, ev]; exact hrun)), (Step.drew hs).trans hst, ?_, hK2⟩
          simp only [Rel]
          exact ⟨_, Ctx.addLoc_same, grownCap w ys.length 0 e, 0, by simpa using hgc, by simp, .inr (by simp), by simp⟩
        | blk b cp e' =>
          obtain ⟨cp', o', h1, h2, h3, evx⟩ := hm
          obtain ⟨he, hze, hcl, arr, tyb, olds, hb, hasz, hrfe, ha⟩ := hm'
          subst he
          have hol : olds.length = els.length * i.size := by rw [(RelF.len _ _ hrfe).1, AV.szs_uniform hze, hsz]
          obtain ⟨post, hp⟩ := At.zero.1 ha
          have holds : ∀ j v, olds[j]? = some v → w.cell? ((⟨b, 0, none⟩ : Addr).add j) = some v := fun j v hj => by
            rw [Addr.add_plain, Nat.zero_add]
            simp only [World.cell?, hb]
            have := ha j v hj
            simpa using this
          have hbo : blockOf c kk (.arr ver e' els) = some b := by simp [blockOf, AObj.ver, hl]
          by_cases hroom : els.length + ys.length ≤ cp'
          · -- room: in place
            have eo' : o' = 0 := by rcases h3 with h3 | h3 <;> omega
            subst eo'
            have hone := (RelF.len _ _ hrf).2
            have hsize : arr.size = arr.toList.length := by simp
            have hfit : els.length * i.size + ds.length ≤ arr.size := by
              rw [hdl, hasz, ← Nat.add_mul, ← hsz]; exact Nat.mul_le_mul_right _ (by omega)
            have hrun := run_append_room' (P := P) (ty := ty) (c := cap) hu hi hb hdl hcells hone hroom hfit
            have htake : arr.toList.take (els.length * i.size) = olds := by rw [hp, ← hol, List.take_left]
            rw [htake] at hrun
            have hwb : ∀ b' cs, b' ≠ b → (w.setRow b cs).heap[b']? = w.heap[b']? := fun b' cs hb' => setRow_other w b b' _ hb'
            have hst := Step.write (w' := w.setRow b (olds ++ ds ++ List.drop (els.length * i.size + ds.length) arr.toList).toArray) hs kk (.arr ver e' els) (.arr ver e' (els ++ ys)) hk rfl ⟨rfl, rfl, rfl, by simp [World.setRow], fun b' _ hS => hwb b' _ fun e => hS ⟨kk, _, hk, by rw [e]; exact hbo⟩⟩
              (fun k'' o'' b' hne hk' hb' => hwb b' _ fun e => hne (hs.inj k'' kk o'' _ b hk' hk (by rw [← e]; exact hb') hbo))
              (fun b' a' hb' => hwb b' _ fun e => by have := hs.sep kk _ b hk hbo; rw [← e, hb'] at this; simp at this) (by
                simp only [OwnOK]
                refine ⟨_, hl, rfl, helems, by rw [hlen']; omega, _, tyb, olds ++ ds, setRow_heap w b arr _ tyb _ hb, ?_, RelF.append.2 ⟨_, _, rfl, hrfe, hrf⟩, At.zero.2 ⟨arr.toList.drop (els.length * i.size + ds.length), by simp⟩⟩
                rw [← hasz]
                simp only [List.size_toArray, List.length_append, List.length_drop, hol, Array.length_toList]
                omega)
            refine ⟨_, _, _, _, _, _, .inl (hexec _ _ (by rw [evx, ev]; exact hrun)), hst, ?_, hK1⟩
            simp only [Rel]
            exact ⟨_, hl, cp', 0, hroom, by simpa using h2, .inr (by simp), rfl⟩
          · -- no room: a new block
            have hrunG : ∀ bb : Addr, (∀ j v, olds[j]? = some v → w.cell? (bb.add j) = some v) → (Builtin.append_ #[t, t] ty #[.slice (some bb) els.length cp', .slice (some ad) ys.length cap]).run P w = _ := fun bb hbb =>
              run_append_grow (P := P) w t ty e i z hu hi hz bb els.length cp' olds hol hbb ad ys.length cap ds hdl hcells (by omega) (by omega) (growslice_fits (by omega) (by rw [hby]; exact c3))
            have hgc := grownCap_ge w (els.length + ys.length) cp' e
            have hst := Step.newOwn (Step.drewAlloc hs) (olds.toArray ++ ds.toArray ++ Builtin.zeroCells z.cells (grownCap w (els.length + ys.length) cp' e - (els.length + ys.length))) e (grownCap w (els.length + ys.length) cp' e) e' (els ++ ys) (olds ++ ds)
              helems (by rw [hlen']; exact hgc) (by simp only [Array.size_append, List.size_toArray, size_zeroCells, hzs, hol, hdl, hsz]; rw [← Nat.add_mul, ← Nat.add_mul]; congr 1; omega) (RelF.append.2 ⟨_, _, rfl, hrfe, hrf⟩) (At.zero.2 ⟨_, by simp; rfl⟩)
            have hbb : ∀ j v, olds[j]? = some v → w.cell? ((⟨b, o', none⟩ : Addr).add j) = some v := by
              rcases h3 with h3 | h3
              · have : els.length = 0 := by omega
                have : olds = [] := List.eq_nil_of_length_eq_zero (by rw [hol, this]; simp)
                subst this
                intro j v hj; simp at hj
              · rw [h3, Nat.zero_mul]; exact holds
            refine ⟨_, _, _, _, _, _, .inl (hexec _ _ (by rw [evx, ev]; exact hrunG _ hbb)), (Step.drew hs).trans hst, ?_, hK2⟩
            simp only [Rel]
            exact ⟨_, Ctx.addLoc_same, grownCap w (els.length + ys.length) cp' e, 0, hgc, by simp, .inr (by simp), rfl⟩
      · exact h.elim
    all_goals exact h.elim
section
variable {P : Program} {z : TypeId → AV} {N : Nat} {ops : Array Oper} {T : Nat → AV} {H : Heap} {n : Nat} {Q : AEx → (Nat → AV) → Heap → Nat → Prop}
theorem erun_before {l2 : List Oper} {Q1 : AEx → (Nat → AV) → Heap → Nat → Prop} (h2 : ∀ T H n, Q1 .normal T H n → lrun P N ops l2 T H n Q) (hp2 : ∀ p T H n, Q1 (.pan p) T H n → Q (.pan p) T H n) : ∀ (l : List Oper) (T : Nat → AV) (H : Heap) (n : Nat), erun P z N ops l T H n Q1 → lrun P N ops (l ++ l2) T H n Q
  | [], T, H, n, h => h2 T H n h
  | ⟨dst, op, ty, pos, after, none⟩ :: os, T, H, n, h => fun c w a hs hr hN hd => by
    unfold erun at h
    obtain ⟨hdst, h⟩ := h
    have hw : Region.wanted ⟨dst, op, ty, pos, after, none⟩ (yielded ops a.tmps) = true := wanted_none rfl
    have hε : ∀ x ∈ op.operands, Rel c (evO T x) false [a.eval x] := fun x _ => evO_rel hr x
    split at h
    · cases hq : opQ P z H true T op with
      | none => rw [hq] at h; exact h.elim
      | some p =>
        obtain ⟨C, r⟩ := p
        rw [hq] at h
        obtain ⟨hC, h⟩ := h
        exact lrun_step (k := fun r' H' n' => r' = r ∧ H' = H ∧ n' = n) (kp := fun _ _ _ => False) hdst (OpT.of_qt (opQ_sound hq rfl hC) ⟨rfl, rfl, rfl⟩) hs hr hN hd hw hε id (fun _ _ _ h => h)
          (by rintro _ _ _ ⟨rfl, rfl, rfl⟩; exact erun_before h2 hp2 os _ _ _ h) (fun _ _ _ h => h.elim)
    · cases hq : opW P z H n T op with
      | none => rw [hq] at h; exact h.elim
      | some p =>
        obtain ⟨C, r, H', n'⟩ := p
        rw [hq] at h
        obtain ⟨hC, h⟩ := h
        exact lrun_step (k := fun r2 H2 n2 => r2 = r ∧ H2 = H' ∧ n2 = n') (kp := fun _ _ _ => False) hdst (opW_sound hq hC ⟨rfl, rfl, rfl⟩) hs hr hN hd hw hε id (fun _ _ _ h => h)
          (by rintro _ _ _ ⟨rfl, rfl, rfl⟩; exact erun_before h2 hp2 os _ _ _ h) (fun _ _ _ h => h.elim)
    · rename_i fo args hcl
      unfold opClass at hcl
      split at hcl
      all_goals first
        | (simp at hcl; done)
        | (split at hcl <;> simp at hcl; done)
        | (simp only [OpClass.c.injEq] at hcl
           obtain ⟨rfl, rfl⟩ := hcl
           exact lrun_step hdst (OpT.call h) hs hr hN hd hw hε id (fun _ _ _ h => h) (fun r H' n' hk => erun_before h2 hp2 os _ _ _ hk) (fun _ _ _ h => hp2 _ _ _ _ h))
  | ⟨dst, op, ty, pos, after, some (j, b)⟩ :: os, T, H, n, h => fun c w a hs hr hN hd => by
    unfold erun at h
    obtain ⟨hdst, h⟩ := h
    cases ht : gtmp ops j with
    | none => rw [ht] at h; exact h.elim
    | some t =>
      rw [ht] at h
      simp only [Option.bind_some] at h
      cases hgv : gval (T t) b with
      | none => rw [hgv] at h; exact h.elim
      | some g =>
        rw [hgv] at h
        have hwg : Region.wanted ⟨dst, op, ty, pos, after, some (j, b)⟩ (yielded ops a.tmps) = g := gval_spec hr rfl ht hgv
        simp only [contB] at h
        have hε : ∀ x ∈ op.operands, Rel c (evO T x) false [a.eval x] := fun x _ => evO_rel hr x
        split at h
        · cases hq : opQ P z H g T op with
          | none =>
            rw [hq] at h
            obtain ⟨hg, h⟩ := h
            rw [hg] at hwg h
            exact lrun_skip hdst hs hr hN hd hwg _ (erun_before h2 hp2 os _ _ _ h)
          | some p =>
            obtain ⟨C, r⟩ := p
            rw [hq] at h
            obtain ⟨hC, h⟩ := h
            cases g with
            | true =>
              exact lrun_step (k := fun r' H' n' => r' = r ∧ H' = H ∧ n' = n) (kp := fun _ _ _ => False) hdst (OpT.of_qt (opQ_sound hq rfl (hC rfl)) ⟨rfl, rfl, rfl⟩) hs hr hN hd hwg hε (.opt true) (fun _ _ _ h => opt_rel rfl h)
                (by rintro _ _ _ ⟨rfl, rfl, rfl⟩; exact erun_before h2 hp2 os _ _ _ h) (fun _ _ _ h => h.elim)
            | false => exact lrun_skip hdst hs hr hN hd hwg _ (erun_before h2 hp2 os _ _ _ h)
        · cases g with
          | true =>
            have h := h.1 rfl
            cases hq : opW P z H n T op with
            | none => rw [hq] at h; exact h.elim
            | some p =>
              obtain ⟨C, r, H', n'⟩ := p
              rw [hq] at h
              obtain ⟨hC, h⟩ := h
              exact lrun_step (k := fun r2 H2 n2 => r2 = r ∧ H2 = H' ∧ n2 = n') (kp := fun _ _ _ => False) hdst (opW_sound hq hC ⟨rfl, rfl, rfl⟩) hs hr hN hd hwg hε id (fun _ _ _ h => h)
                (by rintro _ _ _ ⟨rfl, rfl, rfl⟩; exact erun_before h2 hp2 os _ _ _ h) (fun _ _ _ h => h.elim)
          | false => exact lrun_skip hdst hs hr hN hd hwg _ (erun_before h2 hp2 os _ _ _ (h.2 rfl))
        · rename_i fo args hcl
          unfold opClass at hcl
          split at hcl
          all_goals first
            | (simp at hcl; done)
            | (split at hcl <;> simp at hcl; done)
            | (simp only [OpClass.c.injEq] at hcl
               obtain ⟨rfl, rfl⟩ := hcl
               cases g with
               | true =>
                 exact lrun_step hdst (OpT.call (ε := fun x => strip true (evO T x)) (h.1 rfl)) hs hr hN hd hwg (fun x hx => strip_rel rfl (hε x hx)) (.opt true) (fun _ _ _ h => opt_rel rfl h) (fun r H' n' hk => erun_before h2 hp2 os _ _ _ hk) (fun _ _ _ h => hp2 _ _ _ _ h)
               | false =>
                 obtain ⟨r, h⟩ := h.2 rfl
                 exact lrun_skip hdst hs hr hN hd hwg _ (erun_before h2 hp2 os _ _ _ h))
end
theorem awp_reg_app {P : Program} {N id : Nat} {l : List Oper} {y : Code} {T : Nat → AV} {H : Heap} {n : Nat} {Q : AEx → (Nat → AV) → Heap → Nat → Prop} (z : TypeId → AV) (live : List Nat) (i : Nat) {dst : Option Tmp} {t : TypeId} {xo yo : Operand} {ty : TypeId} {pos : String} {after : Array Edge}
    (ho : l = l.take i ++ ⟨dst, .call ⟨.builtin .append, #[xo, yo], #[t, t]⟩, ty, pos, after, none⟩ :: l.drop (i + 1)) (hd : dOK N dst)
    (h : ∀ K : (Nat → AV) → Heap → Nat → Prop, (∀ T H n, awp P N y T H n Q → K T H n) →
      erun P z N l.toArray (l.take i) T H n (AThen (fun T1 H1 n1 => AppD H1 n1 (fun r H2 n2 => erun P z N l.toArray (l.drop (i + 1)) (tput T1 dst r) H2 n2 (AThen (fun T' H' n' => K (tsel live T') H' n') Q)) (evO T1 xo) (tEl P t) (slcO H1 (evO T1 yo))) Q)) :
    awp P N (.seq (.region id l.toArray false) y) T H n Q := by
  refine awp_seq ?_
  have key : lrun P N l.toArray l T H n (AThen (fun T' H' n' => awp P N y (tsel live T') H' n' Q) Q) := by
    have h1 := h (fun T H n => awp P N y T H n Q) (fun _ _ _ h => h)
    have : lrun P N l.toArray (l.take i ++ ⟨dst, .call ⟨.builtin .append, #[xo, yo], #[t, t]⟩, ty, pos, after, none⟩ :: l.drop (i + 1)) T H n (AThen (fun T' H' n' => awp P N y (tsel live T') H' n' Q) Q) := by
      refine erun_before ?_ ?_ _ _ _ _ h1
      · intro T1 H1 n1 hA c w a hs hr hN hdf
        have hA := hA
        simp only [AThen] at hA
        exact lrun_step (o := ⟨dst, .call ⟨.builtin .append, #[xo, yo], #[t, t]⟩, ty, pos, after, none⟩) (kp := fun _ _ _ => False) hd ((ot_appD (ε := evO T1) hA).mono fun r H n hk => by cases r <;> exact hk) hs hr hN hdf (wanted_none rfl) (fun x _ => evO_rel hr x) (fun x => x) (fun _ _ _ h => h)
          (fun r H' n' hk => erun_sound _ _ _ _ hk) (fun _ _ _ h => h.elim)
      · intro p T H n h; exact h
    rw [← ho] at this
    exact this
  have hr : awp P N (.region id l.toArray false) T H n (AThen (fun T' H' n' => awp P N y (tsel live T') H' n' Q) Q) := fun c w a hs hr hN hd => wp_region_list (by simpa using key c w a hs hr hN hd)
  exact hr.mono fun e T' H' n' hq => by
    cases e <;> first | exact awp_sel live hq | exact hq
theorem awp_reg_app1 {P : Program} {N id : Nat} {l : List Oper} {T : Nat → AV} {H : Heap} {n : Nat} {Q : AEx → (Nat → AV) → Heap → Nat → Prop} (z : TypeId → AV) (live : List Nat) (i : Nat) {dst : Option Tmp} {t : TypeId} {xo yo : Operand} {ty : TypeId} {pos : String} {after : Array Edge}
    (ho : l = l.take i ++ ⟨dst, .call ⟨.builtin .append, #[xo, yo], #[t, t]⟩, ty, pos, after, none⟩ :: l.drop (i + 1)) (hd : dOK N dst)
    (h : ∀ K : (Nat → AV) → Heap → Nat → Prop, (∀ T H n, Q .normal T H n → K T H n) →
      erun P z N l.toArray (l.take i) T H n (AThen (fun T1 H1 n1 => AppD H1 n1 (fun r H2 n2 => erun P z N l.toArray (l.drop (i + 1)) (tput T1 dst r) H2 n2 (AThen (fun T' H' n' => K (tsel live T') H' n') Q)) (evO T1 xo) (tEl P t) (slcO H1 (evO T1 yo))) Q)) :
    awp P N (.region id l.toArray false) T H n Q := by
  have key : lrun P N l.toArray l T H n (AThen (fun T' H' n' => Q .normal (tsel live T') H' n') Q) := by
    have h1 := h (fun T H n => Q .normal T H n) (fun _ _ _ h => h)
    have : lrun P N l.toArray (l.take i ++ ⟨dst, .call ⟨.builtin .append, #[xo, yo], #[t, t]⟩, ty, pos, after, none⟩ :: l.drop (i + 1)) T H n (AThen (fun T' H' n' => Q .normal (tsel live T') H' n') Q) := by
      refine erun_before ?_ ?_ _ _ _ _ h1
      · intro T1 H1 n1 hA c w a hs hr hN hdf
        have hA := hA
        simp only [AThen] at hA
        exact lrun_step (o := ⟨dst, .call ⟨.builtin .append, #[xo, yo], #[t, t]⟩, ty, pos, after, none⟩) (kp := fun _ _ _ => False) hd ((ot_appD (ε := evO T1) hA).mono fun r H n hk => by cases r <;> exact hk) hs hr hN hdf (wanted_none rfl) (fun x _ => evO_rel hr x) (fun x => x) (fun _ _ _ h => h)
          (fun r H' n' hk => erun_sound _ _ _ _ hk) (fun _ _ _ h => h.elim)
      · intro p T H n h; exact h
    rw [← ho] at this
    exact this
  have hr : awp P N (.region id l.toArray false) T H n (AThen (fun T' H' n' => Q .normal (tsel live T') H' n') Q) := fun c w a hs hr hN hd => wp_region_list (by simpa using key c w a hs hr hN hd)
  exact awp_postsel live hr
theorem AppD_nil (H : Heap) (n : Nat) (k : AV → Heap → Nat → Prop) (s by' : Nat) (C : Prop) (eo : Option Nat) (ys : List AV) : AppD H n k .nilsl (some (s, by')) (some (C, eo, ys)) = ((C ∧ (eo = none ∨ eo = some s) ∧ ys.length * by' ≤ 140737488355328 ∧ ys.length ≤ 4611686018427387904) ∧ k (.osl n 0 0 ys.length) (H.put n (some (.arr 0 s ys))) (n + 1)) := rfl
theorem AppD_osl (H : Heap) (n : Nat) (k : AV → Heap → Nat → Prop) (kk ver off len s by' : Nat) (C : Prop) (eo : Option Nat) (ys : List AV) : AppD H n k (.osl kk ver off len) (some (s, by')) (some (C, eo, ys)) = AppO ver off len s by' kk H n C eo ys k (H kk) := rfl
def AppK (k : AV → Heap → Nat → Prop) (H : Heap) (n kk ver esz len : Nat) (els ys : List AV) : Prop :=
  k (.osl kk ver 0 (len + ys.length)) (H.put kk (some (.arr ver esz (els ++ ys)))) n ∧ k (.osl n 0 0 (len + ys.length)) (H.put n (some (.arr 0 esz (els ++ ys)))) (n + 1)
theorem AppO_some2 (ver off len s by' kk : Nat) (H : Heap) (n : Nat) (C : Prop) (eo : Option Nat) (ys : List AV) (k : AV → Heap → Nat → Prop) (ver' esz : Nat) (els : List AV) : AppO ver off len s by' kk H n C eo ys k (some (.arr ver' esz els)) = ((ver = ver' ∧ off = 0 ∧ len = els.length ∧ esz = s ∧ C ∧ (eo = none ∨ eo = some s) ∧ 0 < ys.length ∧ (len + ys.length) * by' ≤ 140737488355328 ∧ len + ys.length ≤ 4611686018427387904) ∧
      AppK k H n kk ver esz len els ys) := rfl
theorem AppK.all {k : AV → Heap → Nat → Prop} {H : Heap} {n kk ver esz len : Nat} {els ys : List AV} (hkk : kk < n)
    (h : ∀ gk gv H2 n2, n ≤ n2 → gk < n2 → (gk = kk ∨ n ≤ gk) → H2 gk = some (.arr gv esz (els ++ ys)) → (H2 kk = some (.arr ver esz els) ∨ H2 kk = some (.arr ver esz (els ++ ys))) → (∀ j, j < n → j ≠ kk → H2 j = H j) → k (.osl gk gv 0 (len + ys.length)) H2 n2)
    (hH : H kk = some (.arr ver esz els)) : AppK k H n kk ver esz len els ys := by
  refine ⟨h _ _ _ _ (Nat.le_refl _) hkk (.inl rfl) (Heap.put_same _ _ _) (.inr (Heap.put_same _ _ _)) (fun j _ hj => Heap.put_ne _ _ hj), h _ _ _ _ (by omega) (by omega) (.inr (Nat.le_refl _)) (Heap.put_same _ _ _) (.inl ?_) (fun j hn hj => Heap.put_ne _ _ (by omega))⟩
  rw [Heap.put_ne _ _ (by omega)]; exact hH
attribute [go_sem] AppD_nil AppD_osl AppO_some2 List.drop_succ_cons List.drop_zero List.drop_nil
end Go.Sx
namespace Go.Sx
open Go
def pwB (ps : List Nat) : List Nat → Bool
  | [] => true
  | a :: l => (l.all fun b => decide (ps.getD a 0 < ps.getD b 0)) && pwB ps l
theorem pwB_spec {ps : List Nat} : ∀ {l : List Nat}, pwB ps l = true → l.Pairwise fun a b => ps.getD a 0 < ps.getD b 0
  | [], _ => .nil
  | a :: l, h => by
    rw [pwB, Bool.and_eq_true] at h
    exact .cons (fun b hb => of_decide_eq_true (List.all_eq_true.1 h.1 b hb)) (pwB_spec h.2)
def incP (l : List Oper) (b : List Nat) (ps : List Nat) (j q : Nat) : Bool :=
  match l[q]? with
  | none => false
  | some oq => decide (ps.getD q 0 < ps.getD j 0) && disj oq.dst.toList (looksL l oq) &&
    (List.range l.length).all fun p => !decide (ps.getD p 0 < ps.getD j 0) || (p == q || isAnc b p q || (match l[p]? with | some op => disj op.dst.toList (looksL l oq ++ oq.dst.toList) | none => true))
def dcheckP (l : List Oper) (N : Nat) (ks : List DK) (ord ps : List Nat) : Bool :=
  let b := ancs [] l
  ks.length == l.length &&
  (l.zipIdx.all fun (o, i) => (edgesOf o).all fun e => decide (e < i)) &&
  ((l.zip ks).zipIdx.all fun ((oj, kj), j) =>
    (match kj with | .w inc => inc.all fun q => incP l b ps j q | _ => true) &&
    ((l.zip ks).zipIdx).all fun ((oi, ki), i) => !decide (ps.getD i 0 < ps.getD j 0) || (isAnc b i j || (pairB l N i j oi oj ki kj && (selfB l oi || ki.isW)))) &&
  ord.all (fun i => decide (i < l.length)) && (List.range l.length).all (fun i => ord.contains i) && pwB ps ord &&
  (l.zipIdx.all fun (o, i) => (edgesOf o).all fun e => decide (ps.getD e 0 < ps.getD i 0)) && ord.length == l.length
section
variable {P : Program} {z : TypeId → AV} {N : Nat} {ops : Array Oper}
theorem frontP (pos : Nat → Nat) {Q : AEx → (Nat → AV) → Heap → Nat → Prop} (hpan : ∀ p T T' H n, Q (.pan p) T H n → Q (.pan p) T' H n) (j : Nat) (kj : DK) :
    ∀ (m : Nat) (pre : List (Nat × DK × List Nat)) (I : List Nat) (post : List (Nat × DK × List Nat)) (T : Nat → AV) (H : Heap) (n : Nat), pre.length = m →
      (∀ p ∈ pre, ∀ x ∈ p.2.2, x ∈ p.2.1.inc) → (∀ p ∈ pre, PairOK ops N p.1 p.2.1 j kj) → (kj.isW = true → ∀ p ∈ pre, p.2.1 = .m ∨ p.1 ∈ I) →
      (pre.map (·.1)).Pairwise (fun a b => pos a < pos b) → (kj.isW = true → ∀ q ∈ I, ∀ p ∈ pre, p.1 ≠ q → (pos p.1 < pos q ∧ q ∈ pre.map (·.1)) ∨ apartDst ops p.1 q) →
      drun P z N ops (pre ++ (j, kj, I) :: post) T H n Q → ∃ I', dstep P z N ops j kj I' T H n (fun T H n => drun P z N ops (pre ++ post) T H n Q) Q
  | 0, pre, I, post, T, H, n, hm, _, _, _, _, _, h => by
    have : pre = [] := List.length_eq_zero_iff.1 hm
    subst this
    exact ⟨I, h⟩
  | m + 1, pre, I, post, T, H, n, hm, hinc, hpair, hin, hsort, hCI, h => by
    rcases List.eq_nil_or_concat pre with rfl | ⟨L, ⟨i, ki, Ii⟩, rfl⟩
    · simp at hm
    · simp only [List.concat_eq_append] at *
      rw [List.append_assoc] at h
      simp only [List.cons_append, List.nil_append] at h
      have hLm : L.length = m := by simpa using hm
      rw [List.map_append, List.pairwise_append] at hsort
      obtain ⟨hsortL, _, hlt⟩ := hsort
      have hlt' : ∀ p ∈ L, pos p.1 < pos i := fun p hp => hlt p.1 (List.mem_map.2 ⟨p, hp, rfl⟩) i (by simp)
      have hlast : kj.isW = true → ∀ q ∈ I, q ≠ i → apartDst ops i q := fun hw q hq hne => by
        rcases hCI hw q hq (i, ki, Ii) (by simp) (fun e => hne e.symm) with ⟨h1, h2⟩ | h1
        · exfalso
          rw [List.map_append, List.mem_append] at h2
          rcases h2 with h2 | h2
          · obtain ⟨p, hp, e⟩ := List.mem_map.1 h2
            have := hlt' p hp
            simp only at h1 e
            subst e
            omega
          · simp at h2; exact hne h2
        · exact h1
      obtain ⟨oi, oj, hoi, hoj, hap, hcase⟩ := hpair (i, ki, Ii) (by simp)
      have hb : ∀ T H n, drun P z N ops ((i, ki, Ii) :: (j, kj, I) :: post) T H n Q → drun P z N ops ((j, kj, if kj.isW then I.filter (· != i) else I) :: (i, ki, Ii) :: post) T H n Q := fun T H n h => by
        rcases hcase with ⟨h1, h2⟩ | ⟨h1, h2, h3, h4⟩ | ⟨h1, h2, ⟨x, hx⟩, h4, h5, h6⟩
        · simp only [h2, Bool.false_eq_true, if_false]
          exact swap_q hoi hoj h1 h2 hap h
        · simp only [h2, if_true]
          cases kj with
          | w inc =>
            refine swap_w hoi hoj h1 hap h3 h4 ?_ (fun q hq hne o ho d hd => hlast rfl q hq hne oi o hoi ho d hd) hpan h
            exact hin rfl (i, ki, Ii) (by simp)
          | m => simp [DK.isW] at h2
          | q => simp [DK.isW] at h2
          | c => simp [DK.isW] at h2
        · subst h2
          simp only [DK.isW, Bool.false_eq_true, if_false]
          cases ki with
          | w inc => exact swap_m hoi hoj hap hx h4 h5 (fun q hq => h6 q (hinc (i, .w inc, Ii) (by simp) q hq)) hpan h
          | m => simp [DK.isW] at h1
          | q => simp [DK.isW] at h1
          | c => simp [DK.isW] at h1
      have h2 := drun_mono_tail hb L T H n h
      obtain ⟨I', hI'⟩ := frontP pos hpan j kj m L (if kj.isW then I.filter (· != i) else I) ((i, ki, Ii) :: post) T H n hLm (fun p hp => hinc p (by simp [hp])) (fun p hp => hpair p (by simp [hp]))
        (fun hw p hp => (hin hw p (by simp [hp])).imp id fun h => by
          rw [if_pos hw]
          exact List.mem_filter.2 ⟨h, by have := hlt' p hp; simp; intro e; rw [e] at this; omega⟩) hsortL
        (fun hw q hq p hp hne => by
          rw [if_pos hw] at hq
          obtain ⟨hq1, hq2⟩ := List.mem_filter.1 hq
          rcases hCI hw q hq1 p (by simp [hp]) hne with ⟨h1, h2⟩ | h1
          · rw [List.map_append, List.mem_append] at h2
            rcases h2 with h2 | h2
            · exact .inl ⟨h1, h2⟩
            · simp at h2 hq2; exact absurd h2 hq2
          · exact .inr h1) h2
      exact ⟨I', by rw [List.append_assoc]; exact hI'⟩
structure CheckedP (ops : Array Oper) (N : Nat) (ks : List DK) (ord : List Nat) (pos : Nat → Nat) : Prop where
  mem : ∀ i, i ∈ ord ↔ i < ops.size
  srt : ord.Pairwise fun a b => pos a < pos b
  lin : ∀ i o, ops[i]? = some o → ∀ e ∈ edgesOf o, pos e < pos i
  len : ks.length = ops.size
  edges : ∀ i o, ops[i]? = some o → ∀ e ∈ edgesOf o, e < i
  pair : ∀ i j ki kj, pos i < pos j → ks[i]? = some ki → ks[j]? = some kj → isAnc (ancs [] ops.toList) i j = false → PairOK ops N i ki j kj ∧ (kj.isW = true → ki = .m ∨ i ∈ kj.inc)
  inc : ∀ j kj, ks[j]? = some kj → ∀ q ∈ kj.inc, (pos q < pos j ∧ q < ops.size) ∧ ∀ p, p < ops.size → pos p < pos j → p ≠ q → isAnc (ancs [] ops.toList) p q = false → apartDst ops p q
theorem dcheckP_spec {ks : List DK} {ord ps : List Nat} (h : dcheckP ops.toList N ks ord ps = true) : CheckedP ops N ks ord (fun i => ps.getD i 0) := by
  unfold dcheckP at h
  simp only [Bool.and_eq_true] at h
  obtain ⟨⟨⟨⟨⟨⟨⟨h1, h2⟩, h3⟩, m1⟩, m2⟩, m3⟩, m4⟩, _⟩ := h
  have hlen : ks.length = ops.size := by simpa using h1
  have hzip : ∀ i o k, ops[i]? = some o → ks[i]? = some k → (ops.toList.zip ks)[i]? = some (o, k) := fun i o k ho hk => by
    rw [List.getElem?_zip_eq_some]; exact ⟨by simpa using ho, hk⟩
  have hop : ∀ (i : Nat) (k : DK), ks[i]? = some k → ∃ o, ops[i]? = some o := fun i k hk => by
    have : i < ks.length := by
      rcases Nat.lt_or_ge i ks.length with h | h
      · exact h
      · rw [List.getElem?_eq_none h] at hk; simp at hk
    exact ⟨ops[i]'(by omega), by simp [Array.getElem?_eq_getElem (show i < ops.size by omega)]⟩
  have hdisj : ∀ {d : Option Tmp} {l : List Nat}, disj d.toList l = true → ∀ x, d = some x → x ∉ l := fun h x hx => disj_spec h (by simp [hx])
  refine ⟨fun i => ?_, pwB_spec m3, fun i o ho e he => ?_, hlen, fun i o ho e he => ?_, fun i j ki kj hij hki hkj hanc => ?_, fun j kj hkj q hq => ?_⟩
  · constructor
    · intro h; have := of_decide_eq_true (List.all_eq_true.1 m1 i h); simpa using this
    · intro h; have := List.all_eq_true.1 m2 i (List.mem_range.2 (by simpa using h)); simpa using this
  · have := List.all_eq_true.1 m4 (o, i) (zipIdx_get _ _ _ (by simpa using ho))
    exact of_decide_eq_true (List.all_eq_true.1 this e he)
  · have := List.all_eq_true.1 h2 (o, i) (zipIdx_get _ _ _ (by simpa using ho))
    exact of_decide_eq_true (List.all_eq_true.1 this e he)
  · obtain ⟨oi, hoi⟩ := hop i ki hki
    obtain ⟨oj, hoj⟩ := hop j kj hkj
    have hj := List.all_eq_true.1 h3 ((oj, kj), j) (zipIdx_get _ _ _ (hzip j oj kj hoj hkj))
    simp only [Bool.and_eq_true] at hj
    have hi := List.all_eq_true.1 hj.2 ((oi, ki), i) (zipIdx_get _ _ _ (hzip i oi ki hoi hki))
    have hij' : decide (ps.getD i 0 < ps.getD j 0) = true := decide_eq_true hij
    simp only [hij', Bool.not_true, hanc, Bool.false_or, Bool.and_eq_true, Bool.or_eq_true] at hi
    obtain ⟨hp, hself⟩ := hi
    unfold pairB at hp
    rw [Bool.and_eq_true] at hp
    obtain ⟨hap, hp⟩ := hp
    have hA := apartB_spec hap
    have hs : ki.isW = false → ∀ d, oi.dst = some d → d ∉ looks (ops := ops) oi := fun hk d hd => by
      rw [hk] at hself
      have := hself.resolve_right (by simp)
      rw [← looksL_eq]; exact hdisj this d hd
    have mres : ki.isW = false → kj.isW = false → PairOK ops N i ki j kj := fun a b => ⟨oi, oj, hoi, hoj, hA, .inl ⟨a, b⟩⟩
    cases kj with
    | w inc =>
      cases ki with
      | w inc' => simp at hp
      | m => exact ⟨⟨oi, oj, hoi, hoj, hA, .inr (.inl ⟨rfl, rfl, hs rfl, .inl rfl⟩)⟩, fun _ => .inl rfl⟩
      | q =>
        simp only [Bool.and_eq_true, Bool.or_eq_true, Bool.not_eq_true'] at hp
        refine ⟨⟨oi, oj, hoi, hoj, hA, .inr (.inl ⟨rfl, rfl, hs rfl, .inr ?_⟩)⟩, fun _ => .inr (by simpa [DK.inc] using hp.1)⟩
        rcases hp.2 with h | h
        · left; cases hd : oi.dst <;> simp_all
        · right; intro fo args ts e; rw [e] at h; simp [isCallV] at h
      | c =>
        simp only [Bool.and_eq_true, Bool.or_eq_true, Bool.not_eq_true'] at hp
        refine ⟨⟨oi, oj, hoi, hoj, hA, .inr (.inl ⟨rfl, rfl, hs rfl, .inr ?_⟩)⟩, fun _ => .inr (by simpa [DK.inc] using hp.1)⟩
        rcases hp.2 with h | h
        · left; cases hd : oi.dst <;> simp_all
        · right; intro fo args ts e; rw [e] at h; simp [isCallV] at h
    | m =>
      cases ki with
      | w inc' =>
        simp only [Bool.and_eq_true] at hp
        obtain ⟨⟨⟨p1, p2⟩, p3⟩, p4⟩ := hp
        refine ⟨⟨oi, oj, hoi, hoj, hA, .inr (.inr ⟨rfl, rfl, ?_, ?_, ?_, fun q hq o ho d hd => ?_⟩)⟩, fun h => by simp [DK.isW] at h⟩
        · unfold isMove at p1; split at p1
          · rename_i x e; exact ⟨x, e⟩
          · simp at p1
        · simpa using p2
        · cases hd : oj.dst with
          | none => trivial
          | some d => rw [hd] at p3; show d < N; exact of_decide_eq_true p3
        · have hn := hdisj p4 d hd
          have : ∀ x, x ∈ looksL ops.toList o ++ o.dst.toList → d ≠ x := fun x hx e => hn (List.mem_flatMap.2 ⟨q, hq, by simp only [Array.getElem?_toList, ho]; rw [e]; exact hx⟩)
          refine ⟨fun hm => ?_, fun e => ?_⟩
          · rw [← looksL_eq] at hm
            exact this d (List.mem_append_left _ hm) rfl
          · exact this d (List.mem_append_right _ (by simp [e])) rfl
      | m => exact ⟨mres rfl rfl, fun h => by simp [DK.isW] at h⟩
      | q => exact ⟨mres rfl rfl, fun h => by simp [DK.isW] at h⟩
      | c => exact ⟨mres rfl rfl, fun h => by simp [DK.isW] at h⟩
    | q =>
      cases ki with
      | w inc' => simp at hp
      | m => exact ⟨mres rfl rfl, fun h => by simp [DK.isW] at h⟩
      | q => exact ⟨mres rfl rfl, fun h => by simp [DK.isW] at h⟩
      | c => exact ⟨mres rfl rfl, fun h => by simp [DK.isW] at h⟩
    | c =>
      cases ki with
      | w inc' => simp at hp
      | m => exact ⟨mres rfl rfl, fun h => by simp [DK.isW] at h⟩
      | q => exact ⟨mres rfl rfl, fun h => by simp [DK.isW] at h⟩
      | c => exact ⟨mres rfl rfl, fun h => by simp [DK.isW] at h⟩
  · obtain ⟨oj, hoj⟩ := hop j kj hkj
    have hj := List.all_eq_true.1 h3 ((oj, kj), j) (zipIdx_get _ _ _ (hzip j oj kj hoj hkj))
    simp only [Bool.and_eq_true] at hj
    cases kj with
    | m => simp [DK.inc] at hq
    | q => simp [DK.inc] at hq
    | c => simp [DK.inc] at hq
    | w inc =>
      have hb := List.all_eq_true.1 hj.1 q hq
      unfold incP at hb
      split at hb
      · simp at hb
      · rename_i oq hoq
        simp only [Bool.and_eq_true] at hb
        obtain ⟨⟨b1, b2⟩, b3⟩ := hb
        refine ⟨⟨of_decide_eq_true b1, by
          rcases Nat.lt_or_ge q ops.size with h9 | h9
          · exact h9
          · rw [Array.getElem?_toList, Array.getElem?_eq_none h9] at hoq; cases hoq⟩, fun p hps hp hne hanc op oq' hop hoq' d hd => ?_⟩
        have hoq2 : oq' = oq := by
          rw [Array.getElem?_toList] at hoq
          rw [hoq'] at hoq; exact Option.some.inj hoq
        subst hoq2
        have := List.all_eq_true.1 b3 p (List.mem_range.2 (by simpa using hps))
        have hp' : decide (ps.getD p 0 < ps.getD j 0) = true := decide_eq_true hp
        simp only [hp', Bool.not_true, Bool.false_or, hanc, Bool.or_false, Bool.or_eq_true, beq_iff_eq, Array.getElem?_toList, hop] at this
        have h5 := this.resolve_left hne
        have hn := hdisj h5 d hd
        refine ⟨fun hm => hn (List.mem_append_left _ (by rw [looksL_eq]; exact hm)), fun e => hn (List.mem_append_right _ (by simp [e]))⟩
theorem anc_listedP {ks : List DK} {ord : List Nat} {pos : Nat → Nat} (hc : CheckedP ops N ks ord pos) {listed : Array Bool} (hcl : ∀ i o, ops[i]? = some o → listed.getD i true = true → ∀ e ∈ edgesOf o, listed.getD e true = true)
    (i : Nat) (o : Oper) (ho : ops[i]? = some o) (hi : ∀ e ∈ edgesOf o, listed.getD e true = true) (p : Nat) (hp : isAnc (ancs [] ops.toList) p i = true) : listed.getD p true = true := by
  induction i using Nat.strongRecOn generalizing o with
  | _ i ih =>
    obtain ⟨e, he, h⟩ := ancs_spec ops.toList [] i o (by simpa using ho) (by simpa using hc.edges i o ho) p (by simpa [isAnc] using hp)
    rcases h with rfl | h
    · exact hi _ he
    · have hlt := hc.edges i o ho e he
      have hsz : i < ops.size := by
        rcases Nat.lt_or_ge i ops.size with h | h
        · exact h
        · rw [Array.getElem?_eq_none h] at ho; simp at ho
      have hoe : ops[e]? = some (ops[e]'(by omega)) := Array.getElem?_eq_getElem (by omega)
      exact ih e hlt _ hoe (hcl e _ hoe (hi e he)) (by simpa [isAnc] using h)
def restP (ord : List Nat) (listed : Array Bool) : List Nat := ord.filter fun i => !listed.getD i true
theorem ready_eqP {ks : List DK} {ord : List Nat} {pos : Nat → Nat} (hc : CheckedP ops N ks ord pos) (listed : Array Bool) (hsz : listed.size = ops.size) (i : Nat) : i ∈ Region.ready .any ops listed ↔ i < ops.size ∧ listed.getD i true = false ∧ ∀ o, ops[i]? = some o → ∀ e ∈ edgesOf o, listed.getD e true = true := by
  unfold Region.ready
  rw [List.mem_filter, List.mem_range]
  refine and_congr_right fun hi => ?_
  have hoi : ops[i]? = some ops[i] := Array.getElem?_eq_getElem hi
  have hdef : ∀ e ∈ edgesOf ops[i], listed.getD e false = listed.getD e true := fun e he => by
    have := hc.edges i _ hoi e he
    simp [show e < listed.size by omega]
  rw [hoi]
  simp only [Option.map_some, Option.getD_some, Bool.and_eq_true, Bool.not_eq_true', Option.some.injEq]
  refine and_congr_right fun _ => ?_
  constructor
  · rintro h o rfl e he
    unfold edgesOf at he
    obtain ⟨ed, hed, rfl⟩ := List.mem_map.1 he
    obtain ⟨hm, hbind⟩ := List.mem_filter.1 hed
    have := Array.all_eq_true_iff_forall_mem.1 h ed (by simpa using hm)
    rw [← hdef ed.on (List.mem_map.2 ⟨ed, List.mem_filter.2 ⟨hm, hbind⟩, rfl⟩)]
    simpa [hbind] using this
  · intro h
    rw [Array.all_eq_true_iff_forall_mem]
    intro ed hm
    cases hb : Region.binds .any ed with
    | false => simp
    | true =>
      have hin : ed.on ∈ edgesOf ops[i] := List.mem_map.2 ⟨ed, List.mem_filter.2 ⟨by simpa using hm, hb⟩, rfl⟩
      rw [hdef _ hin]
      simpa using h _ rfl ed.on hin
theorem drun_anyP {ks : List DK} {ord : List Nat} {pos : Nat → Nat} (hc : CheckedP ops N ks ord pos) {Q : AEx → (Nat → AV) → Heap → Nat → Prop} (hpan : ∀ p T T' H n, Q (.pan p) T H n → Q (.pan p) T' H n) {c0 : Ctx} {H0 : Heap} {w0 : World} :
    ∀ (fuel : Nat) (listed : Array Bool), listed.size = ops.size → (restP ord listed).length = fuel → (∀ i o, ops[i]? = some o → listed.getD i true = true → ∀ e ∈ edgesOf o, listed.getD e true = true) →
      ∀ (c : Ctx) (w : World) (a : Act) (T : Nat → AV) (H : Heap) (n : Nat), Step c0 H0 w0 c H n w → RelTmps c T a.tmps → a.tmps.size = N → a.defers = [] →
        drun P z N ops ((restP ord listed).map (item ks)) T H n Q → wpAny P .any ops (APost N c0 H0 w0 Q) fuel listed a w
  | 0, listed, hsz, hlen, hcl, c, w, a, T, H, n, hst, hr, hN, hd, h => by
    have hnil : restP ord listed = [] := List.length_eq_zero_iff.1 hlen
    rw [hnil] at h
    refine ⟨?_, .normal, c, T, H, n, h, trivial, hst, hr, hN, hd⟩
    rw [List.eq_nil_iff_forall_not_mem]
    intro i hi
    obtain ⟨h1, h2, _⟩ := (ready_eqP hc listed hsz i).1 hi
    have : i ∈ restP ord listed := List.mem_filter.2 ⟨(hc.mem i).2 h1, by simp only [h2]; rfl⟩
    rw [hnil] at this; simp at this
  | fuel + 1, listed, hsz, hlen, hcl, c, w, a, T, H, n, hst, hr, hN, hd, h => by
    have hmem : ∀ i, i ∈ restP ord listed ↔ i < ops.size ∧ listed.getD i true = false := fun i => by
      unfold restP; rw [List.mem_filter, hc.mem]; simp
    have hsorted : (restP ord listed).Pairwise (fun a b => pos a < pos b) := List.Pairwise.filter _ hc.srt
    refine ⟨fun hnone => ?_, fun i hi => ?_⟩
    · -- the first that is left is ready
      exfalso
      cases hrest : restP ord listed with
      | nil => rw [hrest] at hlen; simp at hlen
      | cons i l =>
        obtain ⟨h1, h2⟩ := (hmem i).1 (by rw [hrest]; simp)
        have hready : i ∈ Region.ready .any ops listed := (ready_eqP hc listed hsz i).2 ⟨h1, h2, fun o ho e he => by
          have hlt := hc.lin i o ho e he
          have hlt2 := hc.edges i o ho e he
          cases hle : listed.getD e true with
          | true => rfl
          | false =>
            have : e ∈ restP ord listed := (hmem e).2 ⟨by omega, hle⟩
            rw [hrest] at this hsorted
            rcases List.mem_cons.1 this with e1 | e1
            · subst e1; omega
            · have := (List.pairwise_cons.1 hsorted).1 e e1; omega⟩
        rw [hnone] at hready; simp at hready
    · obtain ⟨h1, h2, h3⟩ := (ready_eqP hc listed hsz i).1 hi
      have hin : i ∈ restP ord listed := (hmem i).2 ⟨h1, h2⟩
      obtain ⟨pre, post, hsplit⟩ := List.append_of_mem hin
      have hoi : ops[i]? = some ops[i] := Array.getElem?_eq_getElem h1
      have hks : ∀ p, p < ops.size → ks[p]? = some (ks.getD p .m) := fun p hp => by
        have : p < ks.length := by rw [hc.len]; exact hp
        simp [List.getD, List.getElem?_eq_getElem this]
      rw [hsplit] at hsorted
      have hsort2 := List.pairwise_append.1 hsorted
      have hpre : ∀ p ∈ pre, pos p < pos i ∧ p < ops.size ∧ listed.getD p true = false := fun p hp => by
        have hpr : p ∈ restP ord listed := by rw [hsplit]; simp [hp]
        exact ⟨hsort2.2.2 p hp i (by simp), (hmem p).1 hpr⟩
      have hnanc : ∀ p ∈ pre, isAnc (ancs [] ops.toList) p i = false := fun p hp => by
        cases hh : isAnc (ancs [] ops.toList) p i with
        | false => rfl
        | true =>
          have := anc_listedP hc hcl i _ hoi (h3 _ hoi) p hh
          rw [(hpre p hp).2.2] at this; simp at this
      have hpairs : ∀ p ∈ pre, PairOK ops N p (ks.getD p .m) i (ks.getD i .m) ∧ ((ks.getD i .m).isW = true → ks.getD p .m = .m ∨ p ∈ (ks.getD i .m).inc) := fun p hp =>
        hc.pair p i _ _ (hpre p hp).1 (hks p (hpre p hp).2.1) (hks i h1) (hnanc p hp)
      rw [hsplit, List.map_append, List.map_cons] at h
      obtain ⟨I', hstep⟩ := frontP pos hpan i (ks.getD i .m) (pre.map (item ks)).length (pre.map (item ks)) (ks.getD i .m).inc (post.map (item ks)) T H n rfl
        (fun p hp => by obtain ⟨x, hx, rfl⟩ := List.mem_map.1 hp; exact fun y hy => hy)
        (fun p hp => by obtain ⟨x, hx, rfl⟩ := List.mem_map.1 hp; exact (hpairs x hx).1)
        (fun hw p hp => by obtain ⟨x, hx, rfl⟩ := List.mem_map.1 hp; exact (hpairs x hx).2 hw)
        (by
          have e : (pre.map (item ks)).map (·.1) = pre := by simp [item, Function.comp_def]
          rw [e]; exact hsort2.1)
        (fun hw q hq p hp hne => by
          obtain ⟨x, hx, rfl⟩ := List.mem_map.1 hp
          simp only [item] at hne ⊢
          obtain ⟨hqi, hqa⟩ := hc.inc i _ (hks i h1) q hq
          cases hh : isAnc (ancs [] ops.toList) x q with
          | false => exact .inr (hqa x (hpre x hx).2.1 (hpre x hx).1 hne hh)
          | true =>
            left
            have hqs : q < ops.size := hqi.2
            have hqi := hqi.1
            have hoq : ops[q]? = some ops[q] := Array.getElem?_eq_getElem hqs
            have hql : listed.getD q true = false := by
              cases hl : listed.getD q true with
              | false => rfl
              | true =>
                have := anc_listedP hc hcl q _ hoq (hcl q _ hoq hl) x hh
                rw [(hpre x hx).2.2] at this; simp at this
            have hqr : q ∈ restP ord listed := (hmem q).2 ⟨hqs, hql⟩
            have hqpre : q ∈ pre := by
              rw [hsplit] at hqr
              rcases List.mem_append.1 hqr with h | h
              · exact h
              · rcases List.mem_cons.1 h with h | h
                · subst h; omega
                · have := (List.pairwise_cons.1 hsort2.2.1).1 q h; omega
            refine ⟨?_, List.mem_map.2 ⟨item ks q, List.mem_map.2 ⟨q, hqpre, rfl⟩, rfl⟩⟩
            have : ∀ (q : Nat) (o : Oper), ops[q]? = some o → ∀ x, isAnc (ancs [] ops.toList) x q = true → pos x < pos q := by
              intro q
              induction q using Nat.strongRecOn with
              | _ q ih =>
                intro o ho x hx
                obtain ⟨e, he, h⟩ := ancs_spec ops.toList [] q o (by simpa using ho) (by simpa using hc.edges q o ho) x (by simpa [isAnc] using hx)
                have hlt := hc.edges q o ho e he
                have hlt3 := hc.lin q o ho e he
                rcases h with rfl | h
                · exact hlt3
                · have hqs' : q < ops.size := by
                    rcases Nat.lt_or_ge q ops.size with h | h
                    · exact h
                    · rw [Array.getElem?_eq_none h] at ho; simp at ho
                  have := ih e hlt _ (Array.getElem?_eq_getElem (show e < ops.size by omega)) x (by simpa [isAnc] using h)
                  omega
            exact this q _ hoq x hh) h
      refine dstep_sound hstep hst hr hN hd fun T' c' H' n' a' w' hK hst' hr' hN' hd' => ?_
      have hget : ∀ k, (listed.setIfInBounds i true).getD k true = if k = i then true else listed.getD k true := fun k => by
        simp only [Array.getD_eq_getD_getElem?, Array.getElem?_setIfInBounds]
        by_cases e : k = i
        · subst e; simp [hsz, h1]
        · simp [Ne.symm e, e]
      have hrest' : restP ord (listed.setIfInBounds i true) = pre ++ post := by
        have e1 : restP ord (listed.setIfInBounds i true) = (restP ord listed).filter (· != i) := by
          unfold restP
          rw [List.filter_filter]
          apply List.filter_congr
          intro k _
          rw [hget]
          by_cases e : k = i <;> simp [e]
        rw [e1, hsplit, List.filter_append, List.filter_cons]
        have ep : pre.filter (· != i) = pre := List.filter_eq_self.2 fun p hp => by have := (hpre p hp).1; simp; intro e; rw [e] at this; omega
        have eq : post.filter (· != i) = post := List.filter_eq_self.2 fun p hp => by have := (List.pairwise_cons.1 hsort2.2.1).1 p hp; simp; intro e; rw [e] at this; omega
        simp [ep, eq]
      have hlen' : (restP ord (listed.setIfInBounds i true)).length = fuel := by
        rw [hrest']
        rw [hsplit] at hlen
        simp at hlen ⊢; omega
      refine drun_anyP hc hpan fuel _ (by simp [hsz]) hlen' (fun k o ho hk e he => ?_) c' w' a' T' H' n' hst' hr' hN' hd' ?_
      · rw [hget] at hk ⊢
        split
        · rfl
        · by_cases ek : k = i
          · subst ek
            exact h3 o ho e he
          · rw [if_neg ek] at hk
            exact hcl k o ho hk e he
      · rw [hrest', List.map_append]
        exact hK
theorem awp_drawP {id : Nat} {l : List Oper} {y : Code} {T : Nat → AV} {H : Heap} {n : Nat} {Q : AEx → (Nat → AV) → Heap → Nat → Prop} (hm : P.follows .mixedOrders = true) (z : TypeId → AV) (live : List Nat) (ks : List DK) (ord ps : List Nat)
    (hc : dcheckP l N ks ord ps = true) (hpan : ∀ p T T' H n, Q (.pan p) T H n → Q (.pan p) T' H n)
    (h : ∀ K : (Nat → AV) → Heap → Nat → Prop, (∀ T H n, awp P N y T H n Q → K T H n) → drun P z N l.toArray (ord.map (item ks)) T H n (AThen (fun T' H' n' => K (tsel live T') H' n') Q)) :
    awp P N (.seq (.region id l.toArray true) y) T H n Q := by
  refine awp_seq (Q := Q) ?_
  intro c w a hs hr hN hd
  refine wp_region_any hm ?_
  have hst : Step c H w c H n { w with drawn := w.drawn + 1 } := Step.drew hs
  have hcc := dcheckP_spec (ops := l.toArray) (N := N) (ks := ks) (ord := ord) (ps := ps) (by simpa using hc)
  have hrest : restP ord (Array.replicate l.toArray.size false) = ord := by
    unfold restP
    rw [List.filter_eq_self.2]
    intro i hi
    have hi : i < l.length := by simpa using (hcc.mem i).1 hi
    simp [hi]
  have hol : ord.length = l.toArray.size := by unfold dcheckP at hc; simp only [Bool.and_eq_true, beq_iff_eq] at hc; simpa using hc.2
  rw [← hol]
  refine drun_anyP (P := P) (z := z) (Q := AThen (fun T H n => awp P N y T H n Q) Q) (ops := l.toArray) hcc (fun p T T' H n hq => hpan p T T' H n hq) ord.length (Array.replicate ord.length false) (by simpa using hol) (by rw [hol, hrest]; exact hol) ?_ c _ a T H n hst hr hN hd ?_
  · intro i o ho hi
    have : i < l.length := by
      rcases Nat.lt_or_ge i l.length with h | h
      · exact h
      · rw [List.getElem?_toArray, List.getElem?_eq_none h] at ho; simp at ho
    simp [this, hol] at hi
  · rw [hol, hrest]
    have := h (fun T' H' n' => awp P N y T' H' n' Q) (fun _ _ _ h => h)
    have mono : ∀ (its : List (Nat × DK × List Nat)) (T : Nat → AV) (H : Heap) (n : Nat), drun P z N l.toArray its T H n (AThen (fun T' H' n' => awp P N y (tsel live T') H' n' Q) Q) →
        drun P z N l.toArray its T H n (AThen (fun T' H' n' => awp P N y T' H' n' Q) Q) := by
      intro its
      induction its with
      | nil => intro T H n hh; exact awp_sel live hh
      | cons it its ih => intro T H n hh; obtain ⟨i, k, I⟩ := it; exact dstep_mono2 (fun T H n h => ih T H n h) (fun p T H n h => h) hh
    exact mono _ _ _ _ this
theorem awp_drawP0 {id : Nat} {l : List Oper} {T : Nat → AV} {H : Heap} {n : Nat} {Q : AEx → (Nat → AV) → Heap → Nat → Prop} (hm : P.follows .mixedOrders = true) (z : TypeId → AV) (ks : List DK) (ord ps : List Nat)
    (hc : dcheckP l N ks ord ps = true) (hpan : ∀ p T T' H n, Q (.pan p) T H n → Q (.pan p) T' H n)
    (h : drun P z N l.toArray (ord.map (item ks)) T H n Q) :
    awp P N (.region id l.toArray true) T H n Q := by
  intro c w a hs hr hN hd
  refine wp_region_any hm ?_
  have hst : Step c H w c H n { w with drawn := w.drawn + 1 } := Step.drew hs
  have hcc := dcheckP_spec (ops := l.toArray) (N := N) (ks := ks) (ord := ord) (ps := ps) (by simpa using hc)
  have hrest : restP ord (Array.replicate l.toArray.size false) = ord := by
    unfold restP
    rw [List.filter_eq_self.2]
    intro i hi
    have hi : i < l.length := by simpa using (hcc.mem i).1 hi
    simp [hi]
  have hol : ord.length = l.toArray.size := by unfold dcheckP at hc; simp only [Bool.and_eq_true, beq_iff_eq] at hc; simpa using hc.2
  rw [← hol]
  refine drun_anyP (P := P) (z := z) (Q := Q) (ops := l.toArray) hcc hpan ord.length (Array.replicate ord.length false) (by simpa using hol) (by rw [hol, hrest]; exact hol) ?_ c _ a T H n hst hr hN hd ?_
  · intro i o ho hi
    have : i < l.length := by
      rcases Nat.lt_or_ge i l.length with h | h
      · exact h
      · rw [List.getElem?_toArray, List.getElem?_eq_none h] at ho; simp at ho
    simp [this, hol] at hi
  · rw [hol, hrest]; exact h
end
def dkAt : List DK → Nat → Option DK
  | [], _ => none
  | k :: _, 0 => some k
  | _ :: l, i + 1 => dkAt l i
theorem dkAt_eq (l : List DK) (k : Nat) : dkAt l k = l[k]? := by
  induction l generalizing k with
  | nil => rfl
  | cons a l ih => cases k with
    | zero => rfl
    | succ k => simp [dkAt, ih]
def opk1 : Option Oper → Option DK → List (Oper × DK) → List (Oper × DK)
  | some o, some k, r => (o, k) :: r
  | _, _, r => r
def opkL (l : List Oper) (ks : List DK) : List Nat → List (Oper × DK)
  | [] => []
  | i :: is => opk1 (opAt l i) (dkAt ks i) (opkL l ks is)
theorem dr_drunP {P : Program} {z : TypeId → AV} {N : Nat} {l : List Oper} {ks : List DK} {Q : AEx → (Nat → AV) → Heap → Nat → Prop} (hl : ks.length = l.length) :
    ∀ (ord : List Nat) (T : Nat → AV) (H : Heap) (n : Nat), (∀ i ∈ ord, i < l.length) → dr P z N l (opkL l ks ord) T H n Q → drun P z N l.toArray (ord.map (item ks)) T H n Q
  | [], T, H, n, hk, h => h
  | k :: ord, T, H, n, hk, h => by
    have h1 : k < l.length := hk k (by simp)
    have h2 : k < ks.length := by omega
    have hlk : l[k]? = some l[k] := List.getElem?_eq_getElem h1
    rw [opkL, opAt_eq, dkAt_eq, hlk, List.getElem?_eq_getElem h2, opk1] at h
    have ih := fun (T : Nat → AV) (H : Heap) (n : Nat) => dr_drunP (P := P) (z := z) (N := N) (ks := ks) (Q := Q) hl ord T H n (fun i hi => hk i (by simp [hi]))
    rw [List.map_cons]
    have ei : item ks k = (k, ks[k], ks[k].inc) := by simp [item, List.getD, List.getElem?_eq_getElem h2]
    rw [ei]
    show dstep P z N l.toArray k ks[k] ks[k].inc T H n _ Q
    unfold dstep
    simp only [List.getElem?_toArray, hlk]
    generalize l[k] = o at h ⊢
    generalize ks[k] = kd at h ⊢
    obtain ⟨dst, op, ty, pos, after, guard⟩ := o
    cases guard with
    | none =>
      unfold dr at h
      refine ⟨h.1, ?_⟩
      have h := h.2
      cases kd with
      | m =>
        simp only [gvO, contB, putG] at h ⊢
        split
        · exact ih _ _ _ h
        · rename_i hne; split at h
          · exact (hne _ rfl).elim
          · exact h
      | q =>
        simp only [gvO, contB, putG] at h ⊢
        cases hq : opQ P z H true T op with
        | none => rw [hq] at h; exact h.elim
        | some p => rw [hq] at h; exact ⟨fun _ => h.1, ih _ _ _ h.2⟩
      | c =>
        simp only [gvO, contB, putG] at h ⊢
        split
        · rename_i fo args ts; obtain ⟨r, h1, h2⟩ := h; exact ⟨r, fun _ => h1 rfl, ih _ _ _ h2⟩
        · rename_i hne; split at h
          · exact (hne _ _ _ rfl).elim
          · exact h
      | w inc =>
        simp only [DK.inc] at h ⊢
        refine ⟨trivial, ?_⟩
        split
        · rename_i fo args ts
          exact callK_mono (fun r H n hr => ⟨sames_all hr.1, ih _ _ _ hr.2⟩) h
        · rename_i hne
          split at h
          · rename_i fo args ts; exact (hne _ _ _ rfl).elim
          · cases hw : opW P z H n T op with
            | none => rw [hw] at h; exact h.elim
            | some p => rw [hw] at h; exact ⟨h.1, sames_all h.2.1, ih _ _ _ h.2.2⟩
    | some jb =>
      obtain ⟨j, b⟩ := jb
      unfold dr at h
      refine ⟨h.1, ?_⟩
      have h := h.2
      have hgv : gvO l.toArray T ⟨dst, op, ty, pos, after, some (j, b)⟩ = (gtmp l.toArray j).bind fun t => gval (T t) b := rfl
      cases hg : (gtmp l.toArray j).bind fun t => gval (T t) b with
      | none => rw [hg] at h; exact h.elim
      | some g =>
        rw [hg] at h
        simp only [contB] at h
        cases kd with
        | m =>
          simp only [hgv, hg, contB, putG] at h ⊢
          split
          · exact ih _ _ _ h
          · rename_i hne; split at h
            · exact (hne _ rfl).elim
            · exact h
        | q =>
          simp only [hgv, hg, contB, putG] at h ⊢
          cases hq : opQ P z H g T op with
          | none => rw [hq] at h; exact ⟨h.1, ih _ _ _ h.2⟩
          | some p => rw [hq] at h; exact ⟨h.1, ih _ _ _ h.2⟩
        | c =>
          simp only [hgv, hg, contB, putG] at h ⊢
          split
          · rename_i fo args ts; obtain ⟨r, h1, h2⟩ := h; exact ⟨r, h1, ih _ _ _ h2⟩
          · rename_i hne; split at h
            · rename_i fo args ts; exact (hne _ _ _ rfl).elim
            · exact h
        | w inc => exact h.elim
theorem awp_drp {P : Program} {N id : Nat} {l : List Oper} {y : Code} {T : Nat → AV} {H : Heap} {n : Nat} {Q : AEx → (Nat → AV) → Heap → Nat → Prop} (hm : P.follows .mixedOrders = true) (z : TypeId → AV) (live : List Nat) (ks : List DK) (ord ps : List Nat)
    (hc : dcheckP l N ks ord ps = true) (hpan : ∀ p T T' H n, Q (.pan p) T H n → Q (.pan p) T' H n)
    (h : ∀ K : (Nat → AV) → Heap → Nat → Prop, (∀ T H n, awp P N y T H n Q → K T H n) → dr P z N l (opkL l ks ord) T H n (AThen (fun T' H' n' => K (tsel live T') H' n') Q)) :
    awp P N (.seq (.region id l.toArray true) y) T H n Q :=
  awp_drawP hm z live ks ord ps hc hpan fun K hK => by
    have hcc := dcheckP_spec (ops := l.toArray) (N := N) (ks := ks) (ord := ord) (ps := ps) (by simpa using hc)
    exact dr_drunP (by simpa using hcc.len) ord T H n (fun i hi => by simpa using (hcc.mem i).1 hi) (by simpa using h K hK)
theorem awp_drp1 {P : Program} {N id : Nat} {l : List Oper} {T : Nat → AV} {H : Heap} {n : Nat} {Q : AEx → (Nat → AV) → Heap → Nat → Prop} (hm : P.follows .mixedOrders = true) (z : TypeId → AV) (live : List Nat) (ks : List DK) (ord ps : List Nat)
    (hc : dcheckP l N ks ord ps = true) (hpan : ∀ p T T' H n, Q (.pan p) T H n → Q (.pan p) T' H n)
    (h : ∀ K : (Nat → AV) → Heap → Nat → Prop, (∀ T H n, Q .normal T H n → K T H n) → dr P z N l (opkL l ks ord) T H n (AThen (fun T' H' n' => K (tsel live T') H' n') Q)) :
    awp P N (.region id l.toArray true) T H n Q :=
  awp_postsel live <| awp_drawP0 hm z ks ord ps hc (fun p T T' H n hq => hpan p T T' H n hq) (by
    have hcc := dcheckP_spec (ops := l.toArray) (N := N) (ks := ks) (ord := ord) (ps := ps) (by simpa using hc)
    exact dr_drunP (by simpa using hcc.len) ord T H n (fun i hi => by simpa using (hcc.mem i).1 hi) (by simpa using h (fun T' H' n' => Q .normal T' H' n') (fun _ _ _ h => h)))
attribute [go_sem] opkL.eq_1 opkL.eq_2 opk1.eq_1 dkAt.eq_1 dkAt.eq_2 dkAt.eq_3
end Go.Sx