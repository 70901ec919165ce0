/- Own layer: walks through the library's SymMerge of entries. Of the program; no condition. -/
import Derived.Test.YtijhkfhflpmajaaGreatFE
import Derived.Test.YtijhkfhflpmajaaGreatFC
set_option linter.unusedSimpArgs false
set_option linter.unusedVariables false
namespace Go.Proofs.YtijhkfhflpmajaaGreat
open Go Go.Sx Go.Rt Go.Proofs
theorem w64u {n : Int} (h : 0 ≤ n) (h' : n < 9223372036854775808) : IntKind.u64.wrap n = n := by
  show n % _ = n
  exact Int.emod_eq_of_lt h (by have : n < 18446744073709551616 := by omega
                                exact this)
theorem halfE {i j : Nat} (h : i + j < 4611686018427387904) : IntKind.i64.wrap ((IntKind.u64.wrap (IntKind.i64.wrap ((i : Int) + (j : Int)))).fdiv (2 ^ min (Int.toNat 1) 64)) = (((i + j) / 2 : Nat) : Int) := by
  rw [wAdd h, w64u (by omega) (by omega)]
  have : (2 : Int) ^ min (Int.toNat 1) 64 = 2 := by decide
  rw [this, Int.fdiv_eq_ediv_of_nonneg _ (by omega), w64 (by omega) (by omega)]
  omega
theorem bifT {p q : Prop} [Decidable p] [Decidable q] (h : (bif decide p then decide q else false) = true) : p ∧ q := by
  by_cases h1 : p <;> by_cases h2 : q <;> simp_all
theorem bifF {p q : Prop} [Decidable p] [Decidable q] (h : (bif decide p then decide q else false) = false) : ¬ (p ∧ q) := by
  by_cases h1 : p <;> by_cases h2 : q <;> simp_all
set_option maxHeartbeats 1600000 in
theorem c_slices_symMerge {α : Type} [Inhabited α] (S : SortOf α) : ∀ (c : Nat) (k ver : Nat) (l : List α) (len : Nat) (hll : l.length = len) (a m b : Nat) (H : Heap) (n : Nat) (hk : k < n) (hH : H k = some (.arr ver 7 (l.map S.f))) (hc0 : CmpC S k H) (ha : a < m) (hmb : m < b) (hbl : b ≤ len) (hl : len < 2305843009213693952) (hc : b - a ≤ c),
    Ret Tryz.prog 120 [.osl k ver 0 len, .int .i64 a, .int .i64 m, .int .i64 b, cmpAV] H n (.tup []) (H.put k (some (.arr ver 7 ((symL S.lt c l a m b).map S.f)))) n := by
  intro c
  induction c with
  | zero => intro k ver l len hll a m b H n hk hH hc0 ha hmb hbl hl hc; omega
  | succ c ih =>
  intro k ver l len hll a m b H n hk hH hc0 ha hmb hbl hl hc
  have v1 := wSub (a := m) (b := a) (by omega) (by omega)
  have v2 := wSub (a := b) (b := m) (by omega) (by omega)
  refine acalls_of_awp Tryz.func120 rfl Tryz.ntmps120 (congrArg Array.toList Tryz.results120) (by simp) ?_
  simp only [go_sem]
  refine awp_seq_k fun K1 hK1 => ?_
  refine awp_reg zs [0, 1, 2, 3, 4, 28] fun K hK => ?_
  try simp only [go_sem, ↓reduceIte, Nat.reduceEqDiff, Nat.reduceLT, Nat.reduceAdd, v1]
  refine hK _ _ _ ?_; clear hK K
  refine awp_cnd (fun hb => ?_) (fun hb => ?_)
  ·skip
   have hc1 : m - a = 1 := by simp at hb; omega
   refine awp_rq zs [0, 1, 3, 4, 10] ?_
   refine awp_rq zs [0, 1, 4, 10, 11] ?_
   refine awp_seq_k fun K2 hK2 => ?_
   refine awp_block ?_
   refine awp_loop (fun T' H' n' => ∃ (i j : Nat), m ≤ i ∧ i ≤ j ∧ j ≤ b ∧ T' = tl [(0, .osl k ver 0 len), (1, .int .i64 a), (4, cmpAV), (10, .int .i64 i), (11, .int .i64 j)] ∧ H' = H ∧ n' = n ∧ bsL (fun h => S.lt (atL l h) (atL l a)) i j = bsL (fun h => S.lt (atL l h) (atL l a)) m b) (fun T' _ _ => iv (T' 11) - iv (T' 10)) ?_ ?_
   ·skip
    exact ⟨m, b, by omega, by omega, by omega, rfl, rfl, rfl, rfl⟩
   intro T1 H1 n1
   rintro ⟨i, j, hi, hij, hj, rfl, rfl, rfl, hr⟩
   refine awp_seq_k fun K3 hK3 => ?_
   refine awp_rq zs [0, 1, 4, 10, 11, 33] ?_
   refine awp_cnd (fun hb => ?_) (fun hb => ?_)
   ·skip
    have hlt : i < j := by simpa using hb
    have v3 := halfE (i := i) (j := j) (by omega)
    have v5 : (i + j) / 2 < len := by omega
    have v6 : a < len := by omega
    have v7 := w1 (i := (i + j) / 2) (by omega)
    rw [bsL_step _ hlt] at hr
    refine awp_skip ?_
    try simp only [go_sem, ↓reduceIte, Nat.reduceEqDiff]
    refine hK3 _ _ _ ?_
    first | clear hK3 K3 | skip
    refine awp_block ?_
    refine awp_reg zs [0, 1, 4, 10, 11, 12] fun K hK => ?_
    try simp only [go_sem, ↓reduceIte, Nat.reduceEqDiff, Nat.reduceLT, v3]
    repeat refine peel ?_
    refine hK _ _ _ ?_; clear hK K
    refine awp_drw rfl zs [0, 1, 4, 10, 11, 12, 50] [.m, .m, .m, .q, .q, .m, .m, .q, .q, .c, .q] (by kernel_rfl) (fun _ _ _ _ _ h => h) fun K hK => ?_
    try simp only [go_sem, ↓reduceIte, Nat.reduceEqDiff, Nat.reduceLT, Int.toNat_natCast, hH, v5, v6, S.nthE, hll, S.lenE, S.sz, S.agg, cmpAV]
    repeat refine peel ?_
    refine callQG_use Tryz.func66 rfl rfl rfl (fun _ n => (hc0.s _ n (atL l ((i + j) / 2)) (atL l a) (by intro jj hjj; simp [Heap.put, hjj]))) ?_
    try simp only [go_sem]
    refine hK _ _ _ ?_; clear hK K
    refine awp_cnd (fun hb => ?_) (fun hb => ?_)
    ·skip
     have hf : S.lt (atL l ((i + j) / 2)) (atL l a) = true := by simpa [SortOf.lt] using hb
     rw [if_pos hf] at hr
     refine awp_reg1 zs [0, 1, 4, 10, 11] fun K hK => ?_
     try simp only [go_sem, ↓reduceIte, Nat.reduceEqDiff, Nat.reduceLT, v7]
     refine hK _ _ _ ?_; clear hK K
     try simp only [go_sem, ↓reduceIte, Nat.reduceEqDiff]
     first
     | exact ⟨⟨(i + j) / 2 + 1, j, by omega, by omega, by omega, rfl, hr⟩, by simp only [iv_int, Int.toNat_natCast]; omega⟩
     | exact ⟨⟨i, (i + j) / 2, by omega, by omega, by omega, rfl, hr⟩, by simp only [iv_int, Int.toNat_natCast]; omega⟩
    ·skip
     have hf : ¬ S.lt (atL l ((i + j) / 2)) (atL l a) = true := by simpa [SortOf.lt] using hb
     rw [if_neg hf] at hr
     refine awp_reg1 zs [0, 1, 4, 10, 11] fun K hK => ?_
     try simp only [go_sem, ↓reduceIte, Nat.reduceEqDiff, Nat.reduceLT]
     refine hK _ _ _ ?_; clear hK K
     try simp only [go_sem, ↓reduceIte, Nat.reduceEqDiff]
     first
     | exact ⟨⟨(i + j) / 2 + 1, j, by omega, by omega, by omega, rfl, hr⟩, by simp only [iv_int, Int.toNat_natCast]; omega⟩
     | exact ⟨⟨i, (i + j) / 2, by omega, by omega, by omega, rfl, hr⟩, by simp only [iv_int, Int.toNat_natCast]; omega⟩
   ·skip
    have hge : ¬ i < j := by simpa using hb
    rw [bsL_done _ hge] at hr
    refine awp_exit ?_
    try simp only [go_sem, ↓reduceIte, Nat.reduceEqDiff]
    refine hK2 _ _ _ ?_
    first | clear hK2 K2 | skip
    refine awp_seq_k fun K4 hK4 => ?_
    refine awp_rq zs [0, 10, 13] ?_
    refine awp_block ?_
    refine awp_loop (fun T' H' n' => ∃ (q : Nat), q ≤ i - 1 - a ∧ T' = tl [(0, .osl k ver 0 len), (10, .int .i64 i), (13, .int .i64 (a + q : Nat))] ∧ H' = H1.put k (some (.arr ver 7 ((swapN l (fun i => a + i) (fun i => a + i + 1) q).map S.f))) ∧ n' = n1) (fun T' _ _ => i - iv (T' 13)) ?_ ?_
    ·skip
     exact ⟨0, by omega, rfl, by rw [swapN, put_id hH], rfl⟩
    intro T1 H1 n1
    rintro ⟨q, hq, rfl, rfl, rfl⟩
    refine awp_seq_k fun K5 hK5 => ?_
    have v8 := wSub1 (a := i) (by omega) (by omega)
    refine awp_reg zs [0, 10, 13, 58] fun K hK => ?_
    try simp only [go_sem, ↓reduceIte, Nat.reduceEqDiff, Nat.reduceLT, v8]
    refine hK _ _ _ ?_; clear hK K
    refine awp_cnd (fun hb => ?_) (fun hb => ?_)
    ·skip
     have hlt : q < i - 1 - a := by simp at hb; omega
     have v9 := w1 (i := a + q) (by omega)
     have v10 : a + q < len := by omega
     have v11 : a + q + 1 < len := by omega
     refine awp_skip ?_
     try simp only [go_sem, ↓reduceIte, Nat.reduceEqDiff]
     refine hK5 _ _ _ ?_
     first | clear hK5 K5 | skip
     refine awp_seq_k fun K6 hK6 => ?_
     refine awp_block ?_
     refine awp_drw1 rfl zs [0, 10, 13] [.m, .m, .m, .m, .q, .m, .m, .q, .q, .q, .m, .m, .q, .q, .q, .w [4], .q, .w []] (by kernel_rfl) (fun _ _ _ _ _ h => h) fun K hK => ?_
     try simp only [go_sem, ↓reduceIte, Nat.reduceEqDiff, Nat.reduceLT, v9, v10, v11, Int.toNat_natCast, S.nthE, hll, swapN_length, List.length_set, ← List.map_set, S.lenE, S.sz, S.agg, S.mem]
     repeat refine peel ?_
     refine hK _ _ _ ?_; clear hK K
     try simp only [go_sem, ↓reduceIte, Nat.reduceEqDiff]
     refine hK6 _ _ _ ?_
     first | clear hK6 K6 | skip
     refine awp_reg1 zs [0, 10, 13] fun K hK => ?_
     try simp only [go_sem, ↓reduceIte, Nat.reduceEqDiff, Nat.reduceLT, v9]
     refine hK _ _ _ ?_; clear hK K
     try simp only [go_sem, ↓reduceIte, Nat.reduceEqDiff]
     exact ⟨⟨q + 1, by omega, rfl, by rw [swapN, swapL]⟩, by simp only [iv_int, Int.toNat_natCast]; omega⟩
    ·skip
     have hge : i - 1 - a = q := by simp at hb; omega
     have hfin : symL S.lt (c + 1) l a m b = swapN l (fun i => a + i) (fun i => a + i + 1) q := by rw [symL, if_pos hc1, ← hr, hge]
     refine awp_exit ?_
     try simp only [go_sem, ↓reduceIte, Nat.reduceEqDiff]
     refine hK4 _ _ _ ?_
     first | clear hK4 K4 | skip
     refine awp_ret ?_
     try simp only [go_sem]
     first | rw [hfin] | rfl | skip
  ·skip
   have hc1 : ¬ m - a = 1 := by simp at hb; omega
   refine awp_skip ?_
   try simp only [go_sem]
   refine hK1 _ _ _ ?_
   first | clear hK1 K1 | skip
   refine awp_seq_k fun K7 hK7 => ?_
   refine awp_reg zs [0, 1, 2, 3, 4, 80] fun K hK => ?_
   try simp only [go_sem, ↓reduceIte, Nat.reduceEqDiff, Nat.reduceLT, v2]
   refine hK _ _ _ ?_; clear hK K
   refine awp_cnd (fun hb => ?_) (fun hb => ?_)
   ·skip
    have hc2 : b - m = 1 := by simp at hb; omega
    refine awp_rq zs [0, 2, 4, 14] ?_
    refine awp_rq zs [0, 2, 4, 14, 15] ?_
    refine awp_seq_k fun K8 hK8 => ?_
    refine awp_block ?_
    refine awp_loop (fun T' H' n' => ∃ (i j : Nat), a ≤ i ∧ i ≤ j ∧ j ≤ m ∧ T' = tl [(0, .osl k ver 0 len), (2, .int .i64 m), (4, cmpAV), (14, .int .i64 i), (15, .int .i64 j)] ∧ H' = H ∧ n' = n ∧ bsL (fun h => !S.lt (atL l m) (atL l h)) i j = bsL (fun h => !S.lt (atL l m) (atL l h)) a m) (fun T' _ _ => iv (T' 15) - iv (T' 14)) ?_ ?_
    ·skip
     exact ⟨a, m, by omega, by omega, by omega, rfl, rfl, rfl, rfl⟩
    intro T1 H1 n1
    rintro ⟨i, j, hi, hij, hj, rfl, rfl, rfl, hr⟩
    refine awp_seq_k fun K9 hK9 => ?_
    refine awp_rq zs [0, 2, 4, 14, 15, 85] ?_
    refine awp_cnd (fun hb => ?_) (fun hb => ?_)
    ·skip
     have hlt : i < j := by simpa using hb
     have v3 := halfE (i := i) (j := j) (by omega)
     have v5 : (i + j) / 2 < len := by omega
     have v6 : m < len := by omega
     have v7 := w1 (i := (i + j) / 2) (by omega)
     rw [bsL_step _ hlt] at hr
     refine awp_skip ?_
     try simp only [go_sem, ↓reduceIte, Nat.reduceEqDiff]
     refine hK9 _ _ _ ?_
     first | clear hK9 K9 | skip
     refine awp_block ?_
     refine awp_reg zs [0, 2, 4, 14, 15, 16] fun K hK => ?_
     try simp only [go_sem, ↓reduceIte, Nat.reduceEqDiff, Nat.reduceLT, v3]
     repeat refine peel ?_
     refine hK _ _ _ ?_; clear hK K
     refine awp_drw rfl zs [0, 2, 4, 14, 15, 16, 103] [.m, .m, .m, .q, .q, .m, .m, .q, .q, .c, .q, .q] (by kernel_rfl) (fun _ _ _ _ _ h => h) fun K hK => ?_
     try simp only [go_sem, ↓reduceIte, Nat.reduceEqDiff, Nat.reduceLT, Int.toNat_natCast, hH, v5, v6, S.nthE, hll, S.lenE, S.sz, S.agg, cmpAV]
     repeat refine peel ?_
     refine callQG_use Tryz.func66 rfl rfl rfl (fun _ n => (hc0.s _ n (atL l m) (atL l ((i + j) / 2)) (by intro jj hjj; simp [Heap.put, hjj]))) ?_
     try simp only [go_sem]
     refine hK _ _ _ ?_; clear hK K
     refine awp_cnd (fun hb => ?_) (fun hb => ?_)
     ·skip
      have hf : (!S.lt (atL l m) (atL l ((i + j) / 2))) = true := by simpa [SortOf.lt] using hb
      rw [if_pos hf] at hr
      refine awp_reg1 zs [0, 2, 4, 14, 15] fun K hK => ?_
      try simp only [go_sem, ↓reduceIte, Nat.reduceEqDiff, Nat.reduceLT, v7]
      refine hK _ _ _ ?_; clear hK K
      try simp only [go_sem, ↓reduceIte, Nat.reduceEqDiff]
      first
      | exact ⟨⟨(i + j) / 2 + 1, j, by omega, by omega, by omega, rfl, hr⟩, by simp only [iv_int, Int.toNat_natCast]; omega⟩
      | exact ⟨⟨i, (i + j) / 2, by omega, by omega, by omega, rfl, hr⟩, by simp only [iv_int, Int.toNat_natCast]; omega⟩
     ·skip
      have hf : ¬ (!S.lt (atL l m) (atL l ((i + j) / 2))) = true := by simpa [SortOf.lt] using hb
      rw [if_neg hf] at hr
      refine awp_reg1 zs [0, 2, 4, 14, 15] fun K hK => ?_
      try simp only [go_sem, ↓reduceIte, Nat.reduceEqDiff, Nat.reduceLT]
      refine hK _ _ _ ?_; clear hK K
      try simp only [go_sem, ↓reduceIte, Nat.reduceEqDiff]
      first
      | exact ⟨⟨(i + j) / 2 + 1, j, by omega, by omega, by omega, rfl, hr⟩, by simp only [iv_int, Int.toNat_natCast]; omega⟩
      | exact ⟨⟨i, (i + j) / 2, by omega, by omega, by omega, rfl, hr⟩, by simp only [iv_int, Int.toNat_natCast]; omega⟩
    ·skip
     have hge : ¬ i < j := by simpa using hb
     rw [bsL_done _ hge] at hr
     refine awp_exit ?_
     try simp only [go_sem, ↓reduceIte, Nat.reduceEqDiff]
     refine hK8 _ _ _ ?_
     first | clear hK8 K8 | skip
     refine awp_seq_k fun K10 hK10 => ?_
     refine awp_rq zs [0, 14, 17] ?_
     refine awp_block ?_
     refine awp_loop (fun T' H' n' => ∃ (q : Nat), q ≤ m - i ∧ T' = tl [(0, .osl k ver 0 len), (14, .int .i64 i), (17, .int .i64 (m - q : Nat))] ∧ H' = H1.put k (some (.arr ver 7 ((swapN l (fun i => m - i) (fun i => m - i - 1) q).map S.f))) ∧ n' = n1) (fun T' _ _ => iv (T' 17)) ?_ ?_
     ·skip
      exact ⟨0, by omega, rfl, by rw [swapN, put_id hH], rfl⟩
     intro T1 H1 n1
     rintro ⟨q, hq, rfl, rfl, rfl⟩
     refine awp_seq_k fun K11 hK11 => ?_
     refine awp_rq zs [0, 14, 17, 110] ?_
     refine awp_cnd (fun hb => ?_) (fun hb => ?_)
     ·skip
      have hlt : q < m - i := by simp at hb; omega
      have v9 := wSub1 (a := m - q) (by omega) (by omega)
      have v10 : m - q < len := by omega
      have v11 : m - q - 1 < len := by omega
      refine awp_skip ?_
      try simp only [go_sem, ↓reduceIte, Nat.reduceEqDiff]
      refine hK11 _ _ _ ?_
      first | clear hK11 K11 | skip
      refine awp_seq_k fun K12 hK12 => ?_
      refine awp_block ?_
      refine awp_drw1 rfl zs [0, 14, 17] [.m, .m, .m, .m, .q, .m, .m, .q, .q, .q, .m, .m, .q, .q, .q, .w [4], .q, .w []] (by kernel_rfl) (fun _ _ _ _ _ h => h) fun K hK => ?_
      try simp only [go_sem, ↓reduceIte, Nat.reduceEqDiff, Nat.reduceLT, v9, v10, v11, Int.toNat_natCast, S.nthE, hll, swapN_length, List.length_set, ← List.map_set, S.lenE, S.sz, S.agg, S.mem]
      repeat refine peel ?_
      refine hK _ _ _ ?_; clear hK K
      try simp only [go_sem, ↓reduceIte, Nat.reduceEqDiff]
      refine hK12 _ _ _ ?_
      first | clear hK12 K12 | skip
      refine awp_reg1 zs [0, 14, 17] fun K hK => ?_
      try simp only [go_sem, ↓reduceIte, Nat.reduceEqDiff, Nat.reduceLT, v9]
      refine hK _ _ _ ?_; clear hK K
      try simp only [go_sem, ↓reduceIte, Nat.reduceEqDiff]
      exact ⟨⟨q + 1, by omega, rfl, by rw [swapN, swapL]⟩, by simp only [iv_int, Int.toNat_natCast]; omega⟩
     ·skip
      have hge : m - i = q := by simp at hb; omega
      have hfin : symL S.lt (c + 1) l a m b = swapN l (fun i => m - i) (fun i => m - i - 1) q := by rw [symL, if_neg hc1, if_pos hc2, ← hr, hge]
      refine awp_exit ?_
      try simp only [go_sem, ↓reduceIte, Nat.reduceEqDiff]
      refine hK10 _ _ _ ?_
      first | clear hK10 K10 | skip
      refine awp_ret ?_
      try simp only [go_sem]
      first | rw [hfin] | rfl | skip
   ·skip
    have hc2 : ¬ b - m = 1 := by simp at hb; omega
    refine awp_skip ?_
    try simp only [go_sem]
    refine hK7 _ _ _ ?_
    first | clear hK7 K7 | skip
    rw [symL, if_neg hc1, if_neg hc2]
    have v3 := halfE (i := a) (j := b) (by omega)
    generalize hmid : (a + b) / 2 = mid at *
    have v4 := wAdd (a := mid) (b := m) (by omega)
    refine awp_reg zs [0, 1, 2, 3, 4, 18] fun K hK => ?_
    try simp only [go_sem, ↓reduceIte, Nat.reduceEqDiff, Nat.reduceLT, v3]
    repeat refine peel ?_
    refine hK _ _ _ ?_; clear hK K
    refine awp_reg zs [0, 1, 2, 3, 4, 18, 19] fun K hK => ?_
    try simp only [go_sem, ↓reduceIte, Nat.reduceEqDiff, Nat.reduceLT, v4]
    refine hK _ _ _ ?_; clear hK K
    refine awp_rq zs [0, 1, 2, 3, 4, 18, 19] ?_
    refine awp_seq_j (fun T' H' n' => ∃ s0 r0 : Nat, (if m > mid then mid + m - b else a) = s0 ∧ (if m > mid then mid else m) = r0 ∧ a ≤ s0 ∧ s0 ≤ r0 ∧ r0 ≤ mid ∧ r0 ≤ m ∧ mid + m - s0 ≤ b ∧ T' 0 = .osl k ver 0 len ∧ T' 1 = .int .i64 a ∧ T' 2 = .int .i64 m ∧ T' 3 = .int .i64 b ∧ T' 4 = cmpAV ∧ T' 18 = .int .i64 mid ∧ T' 19 = .int .i64 (mid + m : Nat) ∧ T' 20 = .int .i64 s0 ∧ T' 21 = .int .i64 r0 ∧ H' = H ∧ n' = n) ?_ ?_
    ·skip
     refine awp_rq zs [0, 1, 2, 3, 4, 18, 19, 140] ?_
     refine awp_cnd (fun hb => ?_) (fun hb => ?_)
     ·skip
      have hgt : m > mid := by simp at hb; omega
      have v5 := wSub (a := mid + m) (b := b) (by omega) (by omega)
      refine awp_reg zs [0, 1, 2, 3, 4, 18, 19, 20] fun K hK => ?_
      try simp only [go_sem, ↓reduceIte, Nat.reduceEqDiff, Nat.reduceLT, v5]
      refine hK _ _ _ ?_; clear hK K
      refine awp_reg1 zs [0, 1, 2, 3, 4, 18, 19, 20, 21] fun K hK => ?_
      try simp only [go_sem, ↓reduceIte, Nat.reduceEqDiff, Nat.reduceLT]
      refine hK _ _ _ ?_; clear hK K
      try simp only [go_sem, ↓reduceIte, Nat.reduceEqDiff]
      first
      | (refine ⟨mid + m - b, mid, if_pos hgt, if_pos hgt, by omega, by omega, by omega, by omega, by omega, ?_⟩; simp; done)
      | (refine ⟨a, m, if_neg hgt, if_neg hgt, by omega, by omega, by omega, by omega, by omega, ?_⟩; simp; done)
     ·skip
      have hgt : ¬ m > mid := by simp at hb; omega
      refine awp_rq zs [0, 1, 2, 3, 4, 18, 19, 20] ?_
      refine awp_reg1 zs [0, 1, 2, 3, 4, 18, 19, 20, 21] fun K hK => ?_
      try simp only [go_sem, ↓reduceIte, Nat.reduceEqDiff, Nat.reduceLT]
      refine hK _ _ _ ?_; clear hK K
      try simp only [go_sem, ↓reduceIte, Nat.reduceEqDiff]
      first
      | (refine ⟨mid + m - b, mid, if_pos hgt, if_pos hgt, by omega, by omega, by omega, by omega, by omega, ?_⟩; simp; done)
      | (refine ⟨a, m, if_neg hgt, if_neg hgt, by omega, by omega, by omega, by omega, by omega, ?_⟩; simp; done)
    rintro T1 H1 n1 ⟨s0, r0, hs0, hr0, g1, g2, g3, g4, g5, t0, t1, t2, t3, t4, t18, t19, t20, t21, rfl, rfl⟩
    refine awp_sel [0, 1, 2, 3, 4, 18, 19, 20, 21] ?_
    simp only [tsel_eq, List.map_cons, List.map_nil, t0, t1, t2, t3, t4, t18, t19, t20, t21]
    rw [hs0, hr0]
    try dsimp only
    generalize hst : bsL (fun c => !S.lt (atL l (mid + m - 1 - c)) (atL l c)) s0 r0 = st
    have v5 := wSub1 (a := mid + m) (by omega) (by omega)
    refine awp_reg zs [0, 1, 2, 3, 4, 18, 19, 20, 21, 22] fun K hK => ?_
    try simp only [go_sem, ↓reduceIte, Nat.reduceEqDiff, Nat.reduceLT, v5]
    refine hK _ _ _ ?_; clear hK K
    refine awp_seq_k fun K13 hK13 => ?_
    refine awp_block ?_
    refine awp_loop (fun T' H' n' => ∃ (i j : Nat), s0 ≤ i ∧ i ≤ j ∧ j ≤ r0 ∧ T' = tl [(0, .osl k ver 0 len), (1, .int .i64 a), (2, .int .i64 m), (3, .int .i64 b), (4, cmpAV), (18, .int .i64 mid), (19, .int .i64 (mid + m : Nat)), (20, .int .i64 i), (21, .int .i64 j), (22, .int .i64 (mid + m - 1 : Nat))] ∧ H' = H1 ∧ n' = n1 ∧ bsL (fun c => !S.lt (atL l (mid + m - 1 - c)) (atL l c)) i j = st) (fun T' _ _ => iv (T' 21) - iv (T' 20)) ?_ ?_
    ·skip
     exact ⟨s0, r0, by omega, by omega, by omega, rfl, rfl, rfl, hst⟩
    intro T1 H1 n1
    rintro ⟨i, j, hi, hij, hj, rfl, rfl, rfl, hr⟩
    refine awp_seq_k fun K14 hK14 => ?_
    refine awp_rq zs [0, 1, 2, 3, 4, 18, 19, 20, 21, 22, 151] ?_
    refine awp_cnd (fun hb => ?_) (fun hb => ?_)
    ·skip
     have hlt : i < j := by simpa using hb
     have v6 := halfE (i := i) (j := j) (by omega)
     have v7 := wSub (a := mid + m - 1) (b := (i + j) / 2) (by omega) (by omega)
     have v8 : (i + j) / 2 < len := by omega
     have v9 : mid + m - 1 - (i + j) / 2 < len := by omega
     have v10 := w1 (i := (i + j) / 2) (by omega)
     rw [bsL_step _ hlt] at hr
     refine awp_skip ?_
     try simp only [go_sem, ↓reduceIte, Nat.reduceEqDiff]
     refine hK14 _ _ _ ?_
     first | clear hK14 K14 | skip
     refine awp_block ?_
     refine awp_reg zs [0, 1, 2, 3, 4, 18, 19, 20, 21, 22, 23] fun K hK => ?_
     try simp only [go_sem, ↓reduceIte, Nat.reduceEqDiff, Nat.reduceLT, v6]
     repeat refine peel ?_
     refine hK _ _ _ ?_; clear hK K
     refine awp_drw rfl zs [0, 1, 2, 3, 4, 18, 19, 20, 21, 22, 23, 171] [.m, .m, .m, .m, .q, .q, .q, .m, .m, .q, .q, .c, .q, .q] (by kernel_rfl) (fun _ _ _ _ _ h => h) fun K hK => ?_
     try simp only [go_sem, ↓reduceIte, Nat.reduceEqDiff, Nat.reduceLT, v7, Int.toNat_natCast, hH, v8, v9, S.nthE, hll, S.lenE, S.sz, S.agg, cmpAV]
     repeat refine peel ?_
     refine callQG_use Tryz.func66 rfl rfl rfl (fun _ n => (hc0.s _ n (atL l (mid + m - 1 - (i + j) / 2)) (atL l ((i + j) / 2)) (by intro jj hjj; simp [Heap.put, hjj]))) ?_
     try simp only [go_sem]
     refine hK _ _ _ ?_; clear hK K
     refine awp_cnd (fun hb => ?_) (fun hb => ?_)
     ·skip
      have hf : (!S.lt (atL l (mid + m - 1 - (i + j) / 2)) (atL l ((i + j) / 2))) = true := by simpa [SortOf.lt] using hb
      rw [if_pos hf] at hr
      refine awp_reg1 zs [0, 1, 2, 3, 4, 18, 19, 20, 21, 22] fun K hK => ?_
      try simp only [go_sem, ↓reduceIte, Nat.reduceEqDiff, Nat.reduceLT, v10]
      refine hK _ _ _ ?_; clear hK K
      try simp only [go_sem, ↓reduceIte, Nat.reduceEqDiff]
      first
      | exact ⟨⟨(i + j) / 2 + 1, j, by omega, by omega, by omega, rfl, hr⟩, by simp only [iv_int, Int.toNat_natCast]; omega⟩
      | exact ⟨⟨i, (i + j) / 2, by omega, by omega, by omega, rfl, hr⟩, by simp only [iv_int, Int.toNat_natCast]; omega⟩
     ·skip
      have hf : ¬ (!S.lt (atL l (mid + m - 1 - (i + j) / 2)) (atL l ((i + j) / 2))) = true := by simpa [SortOf.lt] using hb
      rw [if_neg hf] at hr
      refine awp_reg1 zs [0, 1, 2, 3, 4, 18, 19, 20, 21, 22] fun K hK => ?_
      try simp only [go_sem, ↓reduceIte, Nat.reduceEqDiff, Nat.reduceLT]
      refine hK _ _ _ ?_; clear hK K
      try simp only [go_sem, ↓reduceIte, Nat.reduceEqDiff]
      first
      | exact ⟨⟨(i + j) / 2 + 1, j, by omega, by omega, by omega, rfl, hr⟩, by simp only [iv_int, Int.toNat_natCast]; omega⟩
      | exact ⟨⟨i, (i + j) / 2, by omega, by omega, by omega, rfl, hr⟩, by simp only [iv_int, Int.toNat_natCast]; omega⟩
    ·skip
     have hge : ¬ i < j := by simpa using hb
     rw [bsL_done _ hge] at hr
     subst hr
     refine awp_exit ?_
     try simp only [go_sem, ↓reduceIte, Nat.reduceEqDiff]
     refine hK13 _ _ _ ?_
     first | clear hK13 K13 | skip
     have v11 := wSub (a := mid + m) (b := i) (by omega) (by omega)
     try dsimp only
     generalize hen : mid + m - i = en at *
     refine awp_reg zs [0, 1, 2, 3, 4, 18, 20, 24] fun K hK => ?_
     try simp only [go_sem, ↓reduceIte, Nat.reduceEqDiff, Nat.reduceLT, v11]
     refine hK _ _ _ ?_; clear hK K
     refine awp_seq_j (fun T' H' n' => ∃ l1, (if i < m ∧ m < en then rotL (en - i) l m (m - i) (en - m) else l) = l1 ∧ l1.length = len ∧ T' 0 = .osl k ver 0 len ∧ T' 1 = .int .i64 a ∧ T' 3 = .int .i64 b ∧ T' 4 = cmpAV ∧ T' 18 = .int .i64 mid ∧ T' 20 = .int .i64 i ∧ T' 24 = .int .i64 en ∧ H' = H1.put k (some (.arr ver 7 (l1.map S.f))) ∧ n' = n1) ?_ ?_
     ·skip
      refine awp_rq zs [0, 1, 2, 3, 4, 18, 20, 24, 185] ?_
      refine awp_cnd (fun hb => ?_) (fun hb => ?_)
      ·skip
       have hc3 : i < m ∧ m < en := by have h9 := bifT hb; omega
       refine awp_reg1 zs [0, 1, 3, 4, 18, 20, 24] fun K hK => ?_
       try simp only [go_sem, ↓reduceIte, Nat.reduceEqDiff, Nat.reduceLT]
       refine callK_use Tryz.func135 rfl rfl rfl ((c_slices_rotate S k ver l len hll i m en _ _ hk hH hc3.1 hc3.2 (by omega) hl)) ?_
       refine hK _ _ _ ?_; clear hK K
       try simp only [go_sem, ↓reduceIte, Nat.reduceEqDiff]
       first
       | (refine ⟨_, if_pos hc3, by rw [rotL_length, hll], ?_⟩; simp; done)
       | (refine ⟨_, if_neg hc3, hll, ?_⟩; rw [put_id hH])
      ·skip
       have hc3 : ¬ (i < m ∧ m < en) := by have h9 := bifF hb; omega
       refine awp_skip ?_
       try simp only [go_sem, ↓reduceIte, Nat.reduceEqDiff]
       first
       | (refine ⟨_, if_pos hc3, by rw [rotL_length, hll], ?_⟩; simp; done)
       | (refine ⟨_, if_neg hc3, hll, ?_⟩; rw [put_id hH])
     rintro T1 _ n1 ⟨l1, hl1, hll1, t0, t1, t3, t4, t18, t20, t24, rfl, rfl⟩
     refine awp_sel [0, 1, 3, 4, 18, 20, 24] ?_
     simp only [tsel_eq, List.map_cons, List.map_nil, t0, t1, t3, t4, t18, t20, t24]
     rw [hl1]
     refine awp_seq_j (fun T' H' n' => ∃ l2, (if a < i ∧ i < mid then symL S.lt c l1 a i mid else l1) = l2 ∧ l2.length = len ∧ T' 0 = .osl k ver 0 len ∧ T' 3 = .int .i64 b ∧ T' 4 = cmpAV ∧ T' 18 = .int .i64 mid ∧ T' 24 = .int .i64 en ∧ H' = H1.put k (some (.arr ver 7 (l2.map S.f))) ∧ n' = n1) ?_ ?_
     ·skip
      refine awp_rq zs [0, 1, 3, 4, 18, 20, 24, 199] ?_
      refine awp_cnd (fun hb => ?_) (fun hb => ?_)
      ·skip
       have hc4 : a < i ∧ i < mid := by have h9 := bifT hb; omega
       refine awp_reg1 zs [0, 3, 4, 18, 24] fun K hK => ?_
       try simp only [go_sem, ↓reduceIte, Nat.reduceEqDiff, Nat.reduceLT]
       refine callK_use Tryz.func120 rfl rfl rfl ((ih k ver l1 len hll1 a i mid _ _ hk (Heap.put_same _ _ _) (hc0.put _) hc4.1 hc4.2 (by omega) hl (by omega))) ?_
       try simp only [go_sem]
       refine hK _ _ _ ?_; clear hK K
       try simp only [go_sem, ↓reduceIte, Nat.reduceEqDiff]
       first
       | (refine ⟨_, if_pos hc4, by rw [symL_length, hll1], ?_⟩; simp; done)
       | (refine ⟨_, if_neg hc4, hll1, ?_⟩; simp; done)
      ·skip
       have hc4 : ¬ (a < i ∧ i < mid) := by have h9 := bifF hb; omega
       refine awp_skip ?_
       try simp only [go_sem, ↓reduceIte, Nat.reduceEqDiff]
       first
       | (refine ⟨_, if_pos hc4, by rw [symL_length, hll1], ?_⟩; simp; done)
       | (refine ⟨_, if_neg hc4, hll1, ?_⟩; simp; done)
     rintro T1 _ n1 ⟨l2, hl2, hll2, t0, t3, t4, t18, t24, rfl, rfl⟩
     refine awp_sel [0, 3, 4, 18, 24] ?_
     simp only [tsel_eq, List.map_cons, List.map_nil, t0, t3, t4, t18, t24]
     rw [hl2]
     refine awp_rq zs [0, 3, 4, 18, 24, 213] ?_
     refine awp_cnd (fun hb => ?_) (fun hb => ?_)
     ·skip
      have hc5 : mid < en ∧ en < b := by have h9 := bifT hb; omega
      rw [if_pos hc5]
      refine awp_reg1 zs [] fun K hK => ?_
      try simp only [go_sem, ↓reduceIte, Nat.reduceEqDiff, Nat.reduceLT]
      refine callK_use Tryz.func120 rfl rfl rfl ((ih k ver l2 len hll2 mid en b _ _ hk (Heap.put_same _ _ _) (hc0.put _) hc5.1 hc5.2 (by omega) hl (by omega))) ?_
      try simp only [go_sem]
      refine hK _ _ _ ?_; clear hK K
      try simp only [go_sem]
      first | rw [hfin] | rfl | skip
     ·skip
      have hc5 : ¬ (mid < en ∧ en < b) := by have h9 := bifF hb; omega
      rw [if_neg hc5]
      refine awp_skip ?_
      try simp only [go_sem]
      first | rw [hfin] | rfl | skip
end Go.Proofs.YtijhkfhflpmajaaGreat
namespace Go.Proofs.YtijhkfhflpmajaaGreat
open Go Go.Sx Go.Rt Go.Proofs
theorem blkL_length {α : Type} [Inhabited α] (lt : α → α → Bool) (l : List α) (t : Nat) : (blkL lt l t).length = l.length := by
  induction t with
  | zero => rfl
  | succ t ih => rw [blkL, insN_length, ih]
theorem mrgL_length {α : Type} [Inhabited α] (lt : α → α → Bool) (l : List α) (bs t : Nat) : (mrgL lt l bs t).length = l.length := by
  induction t with
  | zero => rfl
  | succ t ih => rw [mrgL, symL_length, ih]
theorem passL_length {α : Type} [Inhabited α] (lt : α → α → Bool) (l : List α) (bs n : Nat) : (passL lt l bs n).length = l.length := by
  rw [passL]; split <;> simp [symL_length, mrgL_length]
theorem mrg_mul (bs t : Nat) : 2 * bs * (t + 1) = 2 * bs * t + 2 * bs := by rw [Nat.mul_add, Nat.mul_one]
theorem div_lo {len d t : Nat} (h : ¬ d * t + d ≤ len) (h' : t ≤ len / d) (h0 : 0 < d) : len / d = t := by
  refine Nat.le_antisymm ?_ h'
  rcases Nat.lt_or_ge t (len / d) with h1 | h1
  · exfalso; apply h
    have h2 : d * (t + 1) ≤ d * (len / d) := Nat.mul_le_mul_left d h1
    have h3 := Nat.div_mul_le_self len d
    rw [Nat.mul_comm] at h3
    rw [Nat.mul_add, Nat.mul_one] at h2
    omega
  · exact h1
theorem div_hi {len d t : Nat} (h : d * t + d ≤ len) (h0 : 0 < d) : t + 1 ≤ len / d := by
  rw [Nat.le_div_iff_mul_le h0, Nat.mul_comm, Nat.mul_add, Nat.mul_one]; exact h
theorem w2m {b : Nat} (h : b < 2305843009213693952) : IntKind.i64.wrap (2 * (b : Int)) = ((2 * b : Nat) : Int) := by rw [w64 (by omega) (by omega)]; omega
theorem wm2 {b : Nat} (h : b < 2305843009213693952) : IntKind.i64.wrap ((b : Int) * 2) = ((2 * b : Nat) : Int) := by rw [w64 (by omega) (by omega)]; omega
set_option maxHeartbeats 1600000 in
theorem c_slices_stable {α : Type} [Inhabited α] (S : SortOf α) (k ver : Nat) (l : List α) (len : Nat) (hll : l.length = len) (H : Heap) (n : Nat) (hk : k < n) (hH : H k = some (.arr ver 7 (l.map S.f))) (hc : CmpC S k H) (hl : len < 576460752303423488) :
    Ret Tryz.prog 99 [.osl k ver 0 len, .int .i64 len, cmpAV] H n (.tup []) (H.put k (some (.arr ver 7 ((stabL S.lt l).map S.f)))) n := by
  refine acalls_of_awp Tryz.func99 rfl Tryz.ntmps99 (congrArg Array.toList Tryz.results99) (by simp) ?_
  simp only [go_sem]
  refine awp_rq zs [0, 1, 2, 6] ?_
  refine awp_rq zs [0, 1, 2, 6, 7, 8] ?_
  refine awp_seq_k fun K1 hK1 => ?_
  refine awp_block ?_
  refine awp_loop (fun T' H' n' => ∃ (t : Nat), t ≤ len / 20 ∧ T' = tl [(0, .osl k ver 0 len), (1, .int .i64 len), (2, cmpAV), (6, .int .i64 (20 : Nat)), (7, .int .i64 (20 * t : Nat)), (8, .int .i64 (20 * t + 20 : Nat))] ∧ H' = H.put k (some (.arr ver 7 ((blkL S.lt l t).map S.f))) ∧ n' = n) (fun T' _ _ => len + 1 - iv (T' 8)) ?_ ?_
  ·skip
   exact ⟨0, by omega, rfl, by rw [blkL, put_id hH], rfl⟩
  intro T1 H1 n1
  rintro ⟨t, ht, rfl, rfl, rfl⟩
  refine awp_seq_k fun K2 hK2 => ?_
  refine awp_rq zs [0, 1, 2, 6, 7, 8, 13] ?_
  refine awp_cnd (fun hb => ?_) (fun hb => ?_)
  ·skip
   have hle : 20 * t + 20 ≤ len := by simp at hb; omega
   have v1 := wAdd (a := 20 * t + 20) (b := 20) (by omega)
   refine awp_skip ?_
   try simp only [go_sem, ↓reduceIte, Nat.reduceEqDiff]
   refine hK2 _ _ _ ?_
   first | clear hK2 K2 | skip
   refine awp_block ?_
   refine awp_reg zs [0, 1, 2, 6, 8] fun K hK => ?_
   try simp only [go_sem, ↓reduceIte, Nat.reduceEqDiff, Nat.reduceLT]
   refine callK_use Tryz.func119 rfl rfl rfl ((c_slices_insertion S k ver (blkL S.lt l t) len (by rw [blkL_length, hll]) (20 * t) (20 * t + 20) _ _ hk (Heap.put_same _ _ _) (hc.put _) (by omega) (by omega) (by omega))) ?_
   try simp only [go_sem]
   refine hK _ _ _ ?_; clear hK K
   refine awp_rq zs [0, 1, 2, 6, 7, 8] ?_
   refine awp_reg1 zs [0, 1, 2, 6, 7, 8] fun K hK => ?_
   try simp only [go_sem, ↓reduceIte, Nat.reduceEqDiff, Nat.reduceLT, v1]
   refine hK _ _ _ ?_; clear hK K
   try simp only [go_sem, ↓reduceIte, Nat.reduceEqDiff]
   refine ⟨⟨t + 1, by omega, rfl, by rw [blkL, show 20 * t + 20 - 20 * t - 1 = 19 by omega]⟩, by simp only [iv_int, Int.toNat_natCast]; omega⟩
  ·skip
   have hge : ¬ 20 * t + 20 ≤ len := by simp at hb; omega
   have h20 : len / 20 = t := by omega
   refine awp_exit ?_
   try simp only [go_sem, ↓reduceIte, Nat.reduceEqDiff]
   refine hK1 _ _ _ ?_
   first | clear hK1 K1 | skip
   refine awp_reg zs [0, 1, 2, 6] fun K hK => ?_
   try simp only [go_sem, ↓reduceIte, Nat.reduceEqDiff, Nat.reduceLT]
   refine callK_use Tryz.func119 rfl rfl rfl ((c_slices_insertion S k ver (blkL S.lt l t) len (by rw [blkL_length, hll]) (20 * t) len _ _ hk (Heap.put_same _ _ _) (hc.put _) (by omega) (by omega) (by omega))) ?_
   try simp only [go_sem]
   refine hK _ _ _ ?_; clear hK K
   refine awp_block ?_
   refine awp_loop (fun T' H' n' => ∃ (c bs : Nat) (l1 : List α), 20 ≤ bs ∧ bs < 1152921504606846976 ∧ len ≤ bs + c ∧ l1.length = len ∧ T' = tl [(0, .osl k ver 0 len), (1, .int .i64 len), (2, cmpAV), (6, .int .i64 bs)] ∧ H' = H.put k (some (.arr ver 7 (l1.map S.f))) ∧ n' = n1 ∧ outL S.lt len c l1 bs = stabL S.lt l) (fun T' _ _ => len - iv (T' 6)) ?_ ?_
   ·skip
    refine ⟨len, 20, _, by omega, by omega, by omega, ?_, rfl, rfl, rfl, ?_⟩
    · rw [insN_length, blkL_length, hll]
    · rw [stabL, hll, h20]
   intro T1 H1 n1
   rintro ⟨c, bs, l1, hb1, hb2, hlc, hll1, rfl, rfl, rfl, hr⟩
   refine awp_seq_k fun K3 hK3 => ?_
   refine awp_rq zs [0, 1, 2, 6, 30] ?_
   refine awp_cnd (fun hb => ?_) (fun hb => ?_)
   ·skip
    have hlt : bs < len := by simpa using hb
    obtain ⟨c', rfl⟩ : ∃ c', c = c' + 1 := ⟨c - 1, by omega⟩
    rw [outL, if_pos hlt] at hr
    have v2 := w2m (b := bs) (by omega)
    refine awp_skip ?_
    try simp only [go_sem, ↓reduceIte, Nat.reduceEqDiff]
    refine hK3 _ _ _ ?_
    first | clear hK3 K3 | skip
    refine awp_block ?_
    refine awp_reg zs [0, 1, 2, 6, 7, 8] fun K hK => ?_
    try simp only [go_sem, ↓reduceIte, Nat.reduceEqDiff, Nat.reduceLT, v2]
    refine hK _ _ _ ?_; clear hK K
    refine awp_seq_k fun K4 hK4 => ?_
    refine awp_block ?_
    refine awp_loop (fun T' H' n' => ∃ (t : Nat), t ≤ len / (2 * bs) ∧ 2 * bs * t ≤ len ∧ T' = tl [(0, .osl k ver 0 len), (1, .int .i64 len), (2, cmpAV), (6, .int .i64 bs), (7, .int .i64 (2 * bs * t : Nat)), (8, .int .i64 (2 * bs * t + 2 * bs : Nat))] ∧ H' = H.put k (some (.arr ver 7 ((mrgL S.lt l1 bs t).map S.f))) ∧ n' = n1) (fun T' _ _ => len + 1 - iv (T' 8)) ?_ ?_
    ·skip
     exact ⟨0, Nat.zero_le _, by omega, by rw [Nat.mul_zero, Nat.zero_add]; rfl, rfl, rfl⟩
    intro T1 H1 n1
    rintro ⟨t, ht2, htl, rfl, rfl, rfl⟩
    refine awp_seq_k fun K5 hK5 => ?_
    refine awp_rq zs [0, 1, 2, 6, 7, 8, 35] ?_
    refine awp_cnd (fun hb => ?_) (fun hb => ?_)
    ·skip
     have hle : 2 * bs * t + 2 * bs ≤ len := Int.ofNat_le.1 (of_decide_eq_true hb)
     have v3 := wAdd (a := 2 * bs * t) (b := bs) (by omega)
     have v4 := wAdd (a := 2 * bs * t + 2 * bs) (b := 2 * bs) (by omega)
     have v5 := div_hi hle (by omega)
     refine awp_skip ?_
     try simp only [go_sem, ↓reduceIte, Nat.reduceEqDiff]
     refine hK5 _ _ _ ?_
     first | clear hK5 K5 | skip
     refine awp_block ?_
     refine awp_reg zs [0, 1, 2, 6, 8] fun K hK => ?_
     try simp only [go_sem, ↓reduceIte, Nat.reduceEqDiff, Nat.reduceLT, v3]
     refine callK_use Tryz.func120 rfl rfl rfl ((c_slices_symMerge S (2 * bs) k ver (mrgL S.lt l1 bs t) len (by rw [mrgL_length, hll1]) (2 * bs * t) (2 * bs * t + bs) (2 * bs * t + 2 * bs) _ _ hk (Heap.put_same _ _ _) (hc.put _) (by omega) (by omega) (by omega) (by omega) (by omega))) ?_
     try simp only [go_sem]
     refine hK _ _ _ ?_; clear hK K
     refine awp_rq zs [0, 1, 2, 6, 7, 8] ?_
     refine awp_reg1 zs [0, 1, 2, 6, 7, 8] fun K hK => ?_
     try simp only [go_sem, ↓reduceIte, Nat.reduceEqDiff, Nat.reduceLT, v2, v4]
     refine hK _ _ _ ?_; clear hK K
     try simp only [go_sem, ↓reduceIte, Nat.reduceEqDiff]
     refine ⟨⟨t + 1, v5, by rw [mrg_mul]; omega, by rw [mrg_mul], by rw [mrgL]⟩, by simp only [iv_int, Int.toNat_natCast]; omega⟩
    ·skip
     have hge : ¬ 2 * bs * t + 2 * bs ≤ len := fun h => of_decide_eq_false hb (Int.ofNat_le.2 h)
     have hdt := div_lo hge ht2 (by omega)
     have v3 := wAdd (a := 2 * bs * t) (b := bs) (by omega)
     have v6 := wm2 (b := bs) (by omega)
     refine awp_exit ?_
     try simp only [go_sem, ↓reduceIte, Nat.reduceEqDiff]
     refine hK4 _ _ _ ?_
     first | clear hK4 K4 | skip
     refine awp_seq_k fun K6 hK6 => ?_
     refine awp_reg zs [0, 1, 2, 6, 7, 9] fun K hK => ?_
     try simp only [go_sem, ↓reduceIte, Nat.reduceEqDiff, Nat.reduceLT, v3]
     refine hK _ _ _ ?_; clear hK K
     refine awp_rq zs [0, 1, 2, 6, 7, 9, 54] ?_
     refine awp_cnd (fun hb => ?_) (fun hb => ?_)
     ·skip
      have hlt2 : 2 * bs * t + bs < len := Int.ofNat_lt.1 (of_decide_eq_true hb)
      refine awp_reg1 zs [0, 1, 2, 6] fun K hK => ?_
      try simp only [go_sem, ↓reduceIte, Nat.reduceEqDiff, Nat.reduceLT]
      refine callK_use Tryz.func120 rfl rfl rfl ((c_slices_symMerge S (len - 2 * bs * t) k ver (mrgL S.lt l1 bs t) len (by rw [mrgL_length, hll1]) (2 * bs * t) (2 * bs * t + bs) len _ _ hk (Heap.put_same _ _ _) (hc.put _) (by omega) (by omega) (by omega) (by omega) (by omega))) ?_
      try simp only [go_sem]
      refine hK _ _ _ ?_; clear hK K
      try simp only [go_sem, ↓reduceIte, Nat.reduceEqDiff]
      refine hK6 _ _ _ ?_
      first | clear hK6 K6 | skip
      refine awp_reg1 zs [0, 1, 2, 6] fun K hK => ?_
      try simp only [go_sem, ↓reduceIte, Nat.reduceEqDiff, Nat.reduceLT, v6]
      refine hK _ _ _ ?_; clear hK K
      try simp only [go_sem, ↓reduceIte, Nat.reduceEqDiff]
      refine ⟨⟨c', 2 * bs, passL S.lt l1 bs len, by omega, by omega, by omega, by rw [passL_length, hll1], rfl, ?_, hr⟩, by simp only [iv_int, Int.toNat_natCast]; omega⟩
      rw [passL, hdt]
      first | rw [if_pos hlt2] | rw [if_neg hlt2]
     ·skip
      have hlt2 : ¬ 2 * bs * t + bs < len := fun h => of_decide_eq_false hb (Int.ofNat_lt.2 h)
      refine awp_skip ?_
      try simp only [go_sem, ↓reduceIte, Nat.reduceEqDiff]
      refine hK6 _ _ _ ?_
      first | clear hK6 K6 | skip
      refine awp_reg1 zs [0, 1, 2, 6] fun K hK => ?_
      try simp only [go_sem, ↓reduceIte, Nat.reduceEqDiff, Nat.reduceLT, v6]
      refine hK _ _ _ ?_; clear hK K
      try simp only [go_sem, ↓reduceIte, Nat.reduceEqDiff]
      refine ⟨⟨c', 2 * bs, passL S.lt l1 bs len, by omega, by omega, by omega, by rw [passL_length, hll1], rfl, ?_, hr⟩, by simp only [iv_int, Int.toNat_natCast]; omega⟩
      rw [passL, hdt]
      first | rw [if_pos hlt2] | rw [if_neg hlt2]
   ·skip
    have hge : ¬ bs < len := by simpa using hb
    refine awp_exit ?_
    try simp only [go_sem, ↓reduceIte, Nat.reduceEqDiff]
    rw [← hr]; cases c with | zero => rfl | succ c => rw [outL, if_neg hge]
theorem c_slices_SortStable {α : Type} [Inhabited α] (S : SortOf α) (k ver : Nat) (l : List α) (len : Nat) (hll : l.length = len) (H : Heap) (n : Nat) (hk : k < n) (hH : H k = some (.arr ver 7 (l.map S.f))) (hc : CmpC S k H) (hl : len < 576460752303423488) :
    Ret Tryz.prog 65 [.osl k ver 0 len, cmpAV] H n (.tup []) (H.put k (some (.arr ver 7 ((stabL S.lt l).map S.f)))) n := by
  refine acalls_of_awp Tryz.func65 rfl Tryz.ntmps65 (congrArg Array.toList Tryz.results65) (by simp) ?_
  simp only [go_sem]
  refine awp_reg1 zs [] fun K hK => ?_
  try simp only [go_sem, seval]
  refine callK_use Tryz.func99 rfl rfl rfl ((c_slices_stable S k ver l len hll _ _ hk hH hc hl)) ?_
  refine hK _ _ _ ?_; clear hK K
  try simp only [go_sem, seval]
end Go.Proofs.YtijhkfhflpmajaaGreat
namespace Go.Proofs.YtijhkfhflpmajaaGreat
open Go Go.Sx Go.Rt Go.Proofs
theorem fits_of {e : Ent} (h : checkE e = 0) : e.fits := by
  unfold checkE at h
  repeat' split at h
  all_goals first | (exact absurd h (by decide)) | skip
  rename_i h1 h2 h3 h4 h5 h6 h7
  have h1 := bout_false (Bool.eq_false_iff.2 h1)
  refine ⟨by omega, ?_, ?_⟩
  · have : ¬ 256 < (e.qual.length : Int) := by
      intro h; apply h3; simp [badQ, h]
    omega
  · have : ¬ 4096 < (e.value.length : Int) := by
      intro h; apply h7; simp [badV, h]
    omega
theorem isKeys (acc : List Ent) : ∀ e ∈ acc.map seqPair, e.1.isKey (.int .i64) = true := by
  intro e he
  obtain ⟨x, _, rfl⟩ := List.mem_map.1 he
  rfl
def ent0 : AV := .agg [.nilsl, .int .i64 0, .nilsl, .int .i64 0, .int .i64 0, .int .i64 0, .nilsl]
def entO : Option Ent → AV
  | some x => entAV x
  | none => ent0
theorem entO_sz (o : Option Ent) : (entO o).sz = 7 := by cases o <;> rfl
theorem entO_memOK (o : Option Ent) : (entO o).memOK = true := by cases o <;> rfl
theorem lookE (o : Option Ent) : lookR true (o.map entAV) (.agg [.nilsl, .int .i64 0, .nilsl, .int .i64 0, .int .i64 0, .int .i64 0, .nilsl]) = .tup [entO o, .bool o.isSome] := by cases o <;> rfl
theorem FrzL.kls {H : Heap} {n : Nat} : ∀ (l : List AV), AV.kls n l → FrzL H n l l
  | [], _ => .nil
  | _ :: l, h => .cons (.kl h.1) (FrzL.kls l h.2)
theorem dd_clash {o : Option Ent} {e : Ent} (h : (bif o.isSome then !sameE (o.getD default) e else false) = true) : ∃ x, o = some x ∧ x ≠ e := by
  cases o with
  | none => simp at h
  | some x => exact ⟨x, rfl, by simpa [sameE] using h⟩
theorem dd_agree {o : Option Ent} {e : Ent} (h : (bif o.isSome then !sameE (o.getD default) e else false) = false) : o = none ∨ o = some e := by
  cases o with
  | none => exact .inl rfl
  | some x => right; simpa [sameE] using h
def lentS (H : Heap) (k : Nat) : SortOf { x : LEnt // x.there H k } := ⟨fun x => lentAV x.1, fun a b => compE a.1.e b.1.e, fun a => lentAV_sz a.1, fun _ => rfl, fun a => lentAV_memOK a.1, fun _ => rfl⟩
theorem cmpC_lent (H : Heap) (k : Nat) : CmpC (lentS H k) k H := fun H' n a b hj =>
  Ret.lend trivial (.cons (a.2.mono hj).frz (.cons (b.2.mono hj).frz .nil)) (c_cell_Compare a.1.e b.1.e _ _)
theorem o_slices_SortStable (k ver : Nat) (xs : List LEnt) (H : Heap) (n : Nat) (hk : k < n) (hH : H k = some (.arr ver 7 (xs.map lentAV))) (hx : ∀ x ∈ xs, x.there H k) (hs : (xs.map (·.e.seq)).Nodup) (hl : xs.length < 576460752303423488) :
    ∃ ys : List LEnt, ys.Perm xs ∧ ys.map (·.e) = stabL ltE (xs.map (·.e)) ∧ Ret Tryz.prog 65 [.osl k ver 0 xs.length, cmpAV] H n (.tup []) (H.put k (some (.arr ver 7 (ys.map lentAV)))) n := by
  by_cases hnil : xs = []
  · subst hnil
    have h0 := c_slices_SortStable entS k ver [] 0 rfl H n hk hH (cmpC_ent k H) (by omega)
    have h1 : stabL entS.lt [] = [] := List.eq_nil_of_length_eq_zero (by rw [entS_lt, stabL_length]; rfl)
    rw [h1] at h0
    exact ⟨[], .refl _, (List.eq_nil_of_length_eq_zero (by rw [stabL_length]; rfl)).symm, h0⟩
  · obtain ⟨x0, hx0⟩ := List.exists_mem_of_ne_nil xs hnil
    letI : Inhabited { x : LEnt // x.there H k } := ⟨⟨x0, hx x0 hx0⟩⟩
    have e1 : (xs.attachWith _ hx).map (fun a => a.1) = xs := List.attachWith_map_subtype_val _
    have hO : Ord (lentS H k).lt := ⟨fun a b c => ord_ltE.tr a.1.e b.1.e c.1.e, fun a b => ord_ltE.asym a.1.e b.1.e⟩
    obtain ⟨hsrt, hperm⟩ := stabL_ok hO (xs.attachWith _ hx)
    refine ⟨(stabL (lentS H k).lt (xs.attachWith _ hx)).map (fun a => a.1), by have := hperm.map (fun a => a.1); rw [e1] at this; exact this, ?_, ?_⟩
    · refine srt_unique ?_ (stabL_srt _) ?_ ?_
      · rw [List.map_map]; exact List.pairwise_map.2 hsrt
      · refine List.Perm.trans ?_ (stabL_perm _).symm
        have := (hperm.map (fun a => a.1)).map (fun x : LEnt => x.e)
        rw [e1] at this
        exact this
      · have := (hperm.map (fun a => a.1)).map (fun x : LEnt => x.e.seq)
        rw [e1] at this
        rw [List.map_map]
        exact this.nodup_iff.2 hs
    · have h0 := c_slices_SortStable (lentS H k) k ver (xs.attachWith _ hx) xs.length (by simp) H n hk (by rw [hH]; conv => lhs; rw [← e1]
                                                                                                           rw [List.map_map]; rfl) (cmpC_lent H k) hl
      rw [List.map_map]
      exact h0
theorem u_retain_sorted (l : List Ent) (hl : l.length ≤ 1000000000) (hg : ∀ e ∈ l, e.fits) (H : Heap) (n : Nat) :
    ACalls Tryz.prog 36 [entsAV l] H n (AnsK n H (sortedE l).1 (sortedE l).2) := by
  refine acalls_of_awp Tryz.func36 rfl Tryz.ntmps36 (congrArg Array.toList Tryz.results36) (by simp) ?_
  simp only [go_sem]
  refine awp_rq zs [0] ?_
  refine awp_rq zs [0, 4] ?_
  refine awp_rq zs [0, 4, 5] ?_
  refine awp_seq_k fun K1 hK1 => ?_
  refine awp_adopt_tmp 5 7 rfl ?_
  refine awp_rq zs [4, 5, 11, 12, 13] ?_
  refine awp_block ?_
  refine awp_loop (fun T' H' n' => ∃ (i : Nat) (acc : List Ent) (xs : List LEnt), xs.map (·.e) = acc ∧ i ≤ l.length ∧ acc.length ≤ i ∧ T' = tl [(4, .omap n), (5, .osl (n + 1) acc.length 0 acc.length), (11, .sl 7 (l.map entAV)), (12, .int .i64 l.length), (13, .int .i64 i)] ∧ n + 2 ≤ n' ∧ H' n = some (.map (acc.map seqPair)) ∧ H' (n + 1) = some (.arr acc.length 7 (xs.map lentAV)) ∧ (∀ k, k < n → H' k = H k) ∧ ddE acc (l.drop i) = ddE [] l ∧ MineL H' (n + 2) n' xs ∧ (acc.map (·.seq)).Nodup) (fun T' _ _ => l.length - iv (T' 13)) ?_ ?_
  ·skip
   refine ⟨0, [], [], rfl, Nat.zero_le _, Nat.zero_le _, by rw [List.length_map]; rfl, by omega, ?_, ?_, ?_, rfl, MineL.nil _ _ _, .nil⟩
   · simp [Heap.put]
   · simp [Heap.put]
   · intro k hk; rw [Heap.put_ne _ _ (by omega), Heap.put_ne _ _ (by omega)]
  intro T1 H1 n1
  rintro ⟨i, acc, xs, hxe, hi, hai, rfl, hn, hm, ho, hrest, hd, hmine, hseq⟩
  have hxl : xs.length = acc.length := by rw [← hxe]; simp
  refine awp_rq zs [4, 5, 11, 12, 13, 14] ?_
  refine awp_seq_k fun K2 hK2 => ?_
  refine awp_cnd (fun hb => ?_) (fun hb => ?_)
  ·skip
   have hlt : i < l.length := by simpa using hb
   rw [drop_cons l i hlt, ddE] at hd
   have hmem : l.getD i default ∈ l := by simp [List.getD, List.getElem?_eq_getElem hlt]
   have hfit := hg _ hmem
   have hnth : nth (l.map entAV) i = entAV (l.getD i default) := nth_map entAV l i hlt
   generalize l.getD i default = e at *
   have q1 : (n = n1) = False := by simp; omega
   have q2 : (n + 1 = n1) = False := by simp; omega
   have q3 : (n = n1 + 1) = False := by simp; omega
   have q4 : (n + 1 = n1 + 1) = False := by simp; omega
   have q5 : (n1 = n + 1) = False := by simp; omega
   have q6 : (n1 + 1 = n + 1) = False := by simp; omega
   have q7 : (n1 = n) = False := by simp; omega
   have q8 : (n1 + 1 = n) = False := by simp; omega
   have hrest1 : ∀ (o o' : Option AObj) (k : Nat), k < n → ((H1.put n1 o).put (n1 + 1) o') k = H k := fun o o' k hk => by rw [Heap.put_ne _ _ (by omega), Heap.put_ne _ _ (by omega)]; exact hrest k hk
   refine awp_skip ?_
   try simp only [go_sem, seval]
   refine hK2 _ _ _ ?_
   first | clear hK2 K2 | skip
   refine awp_seq_k fun K3 hK3 => ?_
   refine awp_block ?_
   refine awp_reg zs [4, 5, 7, 11, 12, 13] fun K hK => ?_
   try simp only [go_sem, seval, Int.toNat_natCast, hnth]
   repeat refine peel ?_
   refine hK _ _ _ ?_; clear hK K
   refine awp_reg zs [4, 5, 7, 8, 9, 11, 12, 13] fun K hK => ?_
   try simp only [go_sem, seval, hm, findK_seq, lookE, q1, entO_sz, entO_memOK, List.getD_cons_zero, List.getD_cons_succ]
   repeat (first | (refine And.intro ?_ ?_; · first | exact ⟨rfl, isKeys acc⟩ | exact ⟨rfl, entO_sz _, entO_memOK _⟩) | refine peel ?_)
   refine hK _ _ _ ?_; clear hK K
   refine awp_seq_k fun K4 hK4 => ?_
   refine awp_reg zs [4, 5, 7, 9, 11, 12, 13, 30] fun K hK => ?_
   try simp only [go_sem, seval]
   repeat (first | (refine And.intro ?_ ?_; · first | exact fun _ => ⟨(by cases seqOf acc e.seq <;> rfl), by rw [entO_sz]⟩) | refine peel ?_)
   have hc9 : ∀ H9 n9, (seqOf acc e.seq).isSome = true → Ret Tryz.prog 63 [entO (seqOf acc e.seq), entAV e] H9 n9 (.bool (sameE ((seqOf acc e.seq).getD default) e)) H9 n9 := fun H9 n9 hg8 => by obtain ⟨x, hx⟩ := Option.isSome_iff_exists.1 hg8; rw [hx]; exact c_retain_same x e _ _
   refine callG_use Tryz.func63 rfl rfl rfl (fun hg9 => hc9 _ _ (by simpa using hg9)) ?_
   try simp only [go_sem, seval]
   repeat (first | (refine And.intro ?_ ?_; · first | exact fun _ => ⟨(by cases seqOf acc e.seq <;> rfl), by rw [entO_sz]⟩) | refine peel ?_)
   refine hK _ _ _ ?_; clear hK K
   refine awp_cnd (fun hb => ?_) (fun hb => ?_)
   ·skip
    obtain ⟨x, hx, hne⟩ := dd_clash hb
    rw [hx] at hd; simp only [if_neg hne] at hd
    have hs : sortedE l = ([], 31) := by unfold sortedE; rw [← hd]
    refine awp_rq zs [2, 3] ?_
    refine awp_ret ?_
    try simp only [go_sem, seval]
    rw [hs]
    first
    | exact ⟨_, rfl, AnsU.nil _ _ _, by omega, hrest1 _ _⟩
    | (refine ⟨_, rfl, .inr ⟨n + 1, acc.length, ys, by rw [hyp.length_eq, hxl], by rw [hye, hxe], Heap.put_same _ _ _, by omega, by omega, ((hmine.perm hyp).mono (fun k h1 h2 => Heap.put_ne _ _ (by omega)) (Nat.le_refl _)).low (by omega), fun hin => by have := ((hmine.perm hyp).in' hin).1; omega⟩, by omega, fun k hk => (Heap.put_ne _ _ (by omega)).trans (hrest k hk)⟩)
   ·skip
    have hag := dd_agree hb
    refine awp_skip ?_
    try simp only [go_sem, seval]
    refine hK4 _ _ _ ?_
    first | clear hK4 K4 | skip
    refine awp_rq zs [4, 5, 7, 11, 12, 13, 32] ?_
    refine awp_cnd (fun hb => ?_) (fun hb => ?_)
    ·skip
     have hnone : seqOf acc e.seq = none := by cases h9 : seqOf acc e.seq <;> simp_all
     rw [hnone] at hd; simp only at hd
     refine awp_reg zs [4, 5, 7, 11, 12, 13] fun K hK => ?_
     try simp only [go_sem, seval, hm, q1, q3]
     repeat (first | (refine And.intro ?_ ?_; · first | exact ⟨rfl, isKeys acc⟩) | refine peel ?_)
     refine hK _ _ _ ?_; clear hK K
     have r2 : (0 : Nat) = 0 := rfl
     refine awp_reg1 zs [4, 5, 11, 12, 13] fun K hK => ?_
     try simp only [go_sem, seval, q7]
     repeat (first | (refine And.intro ?_ ?_; · first | exact ⟨rfl, by simp [AV.sz, AV.szs, AV.memOK, lentAV, Lp.av]⟩ | (simp; omega)) | refine peel ?_)
     refine callK_useK (args' := [entAV e]) Tryz.func64 rfl rfl rfl (o_retain_copied e hfit _ _) ?_ ?_
     rotate_left
     · intro p H' n' h; obtain ⟨x, hx, _⟩ := h; cases hx
     rintro r H2 n2 ⟨x, hr2, hxe2, hn2, hmx, hlow⟩
     cases hr2
     have r2 := (hlow (n + 1) (by omega)).trans ((Heap.put_ne _ _ (by omega)).trans ((Heap.put_ne _ _ (by omega)).trans ((Heap.put_ne _ _ (by omega)).trans ho)))
     have r3 := (hlow n (by omega)).trans (Heap.put_same _ _ _)
     try simp only [go_sem, seval, r2]
     repeat (first | (refine And.intro ?_ ?_; · first | exact ⟨rfl, by simp [AV.sz, AV.szs, AV.memOK, lentAV, Lp.av]⟩ | (simp; omega)) | refine peel ?_)
     refine hK _ _ _ ?_; clear hK K
     try simp only [go_sem, seval]
     refine hK3 _ _ _ ?_
     first | clear hK3 K3 | skip
     refine awp_reg1 zs [4, 5, 11, 12, 13] fun K hK => ?_
     try simp only [go_sem, seval]
     refine hK _ _ _ ?_; clear hK K
     try simp only [go_sem, seval]
     first
     | (refine ⟨⟨i + 1, acc ++ [e], xs ++ [x], by simp [hxe, hxe2], by omega, by simp; omega, by rw [w1 (by omega)]; simp, by omega, ?_, ?_, ?_, hd, ?_, ?_⟩, by rw [w1 (by omega)]; simp; omega⟩
        · first | exact r3 | (rw [← setK_seq acc e hnone]; exact r3)
        · simp [Heap.put, List.take_of_length_le, hxl, lentAV, Lp.av]
        · intro k hk; first | rw [if_neg (by omega)] | rw [Heap.put_ne _ _ (by omega)]
          rw [hlow k (by omega), Heap.put_ne _ _ (by omega)]; exact hrest1 _ _ k hk
        · refine ((hmine.mono (fun k h1 h2 => ?_) (by omega : n1 ≤ n1 + 2)).snoc hmx (by omega) hn2).mono (fun k h1 h2 => Heap.put_ne _ _ (by omega)) (Nat.le_refl _)
          rw [hlow k (by omega), Heap.put_ne _ _ (by omega), Heap.put_ne _ _ (by omega), Heap.put_ne _ _ (by omega)]
        · rw [List.map_append, List.nodup_append]; refine ⟨hseq, by simp, fun a ha b hb9 => ?_⟩
          simp only [List.map_cons, List.map_nil, List.mem_singleton] at hb9
          obtain ⟨y, hy, rfl⟩ := List.mem_map.1 ha
          subst hb9; exact seqOf_none hnone y hy)
     | (refine ⟨⟨i + 1, acc, xs, hxe, by omega, by omega, by rw [w1 (by omega)], by omega, ?_, ?_, ?_, hd, hmine.mono (fun k h1 h2 => by rw [Heap.put_ne _ _ (by omega), Heap.put_ne _ _ (by omega)]) (by omega), hseq⟩, by rw [w1 (by omega)]; simp; omega⟩
        · first | exact hm | (rw [if_neg (by omega), if_neg (by omega)]; exact hm)
        · first | exact ho | (rw [if_neg (by omega), if_neg (by omega)]; exact ho)
        · first | exact hrest1 _ _ | (intro k hk; simp only [Heap.put]; rw [if_neg (by omega), if_neg (by omega)]; exact hrest k hk))
    ·skip
     have hsome : seqOf acc e.seq = some e := by rcases hag with h9 | h9; (rw [h9] at hb; simp at hb); exact h9
     rw [hsome] at hd; simp only [if_true] at hd
     refine awp_skip ?_
     try simp only [go_sem, seval]
     refine hK3 _ _ _ ?_
     first | clear hK3 K3 | skip
     refine awp_reg1 zs [4, 5, 11, 12, 13] fun K hK => ?_
     try simp only [go_sem, seval]
     refine hK _ _ _ ?_; clear hK K
     try simp only [go_sem, seval]
     first
     | (refine ⟨⟨i + 1, acc ++ [e], xs ++ [x], by simp [hxe, hxe2], by omega, by simp; omega, by rw [w1 (by omega)]; simp, by omega, ?_, ?_, ?_, hd, ?_, ?_⟩, by rw [w1 (by omega)]; simp; omega⟩
        · first | exact r3 | (rw [← setK_seq acc e hnone]; exact r3)
        · simp [Heap.put, List.take_of_length_le, hxl, lentAV, Lp.av]
        · intro k hk; first | rw [if_neg (by omega)] | rw [Heap.put_ne _ _ (by omega)]
          rw [hlow k (by omega), Heap.put_ne _ _ (by omega)]; exact hrest1 _ _ k hk
        · refine ((hmine.mono (fun k h1 h2 => ?_) (by omega : n1 ≤ n1 + 2)).snoc hmx (by omega) hn2).mono (fun k h1 h2 => Heap.put_ne _ _ (by omega)) (Nat.le_refl _)
          rw [hlow k (by omega), Heap.put_ne _ _ (by omega), Heap.put_ne _ _ (by omega), Heap.put_ne _ _ (by omega)]
        · rw [List.map_append, List.nodup_append]; refine ⟨hseq, by simp, fun a ha b hb9 => ?_⟩
          simp only [List.map_cons, List.map_nil, List.mem_singleton] at hb9
          obtain ⟨y, hy, rfl⟩ := List.mem_map.1 ha
          subst hb9; exact seqOf_none hnone y hy)
     | (refine ⟨⟨i + 1, acc, xs, hxe, by omega, by omega, by rw [w1 (by omega)], by omega, ?_, ?_, ?_, hd, hmine.mono (fun k h1 h2 => by rw [Heap.put_ne _ _ (by omega), Heap.put_ne _ _ (by omega)]) (by omega), hseq⟩, by rw [w1 (by omega)]; simp; omega⟩
        · first | exact hm | (rw [if_neg (by omega), if_neg (by omega)]; exact hm)
        · first | exact ho | (rw [if_neg (by omega), if_neg (by omega)]; exact ho)
        · first | exact hrest1 _ _ | (intro k hk; simp only [Heap.put]; rw [if_neg (by omega), if_neg (by omega)]; exact hrest k hk))
  ·skip
   have hge : i = l.length := by simp at hb; omega
   rw [hge, List.drop_length, ddE] at hd
   have hs : sortedE l = (stabL ltE acc, 0) := by unfold sortedE; rw [← hd]
   obtain ⟨ys, hyp, hye, hyc⟩ := o_slices_SortStable (n + 1) acc.length xs H1 n1 (by omega) ho (fun x hx => ⟨(hmine.all x hx).r.ok.tohere, (hmine.all x hx).q.ok.tohere, (hmine.all x hx).v.ok.tohere, fun hin => by have := ((hmine.all x hx).in' hin).1; omega⟩) (by rw [← hxe, List.map_map] at hseq; exact hseq) (by omega)
   rw [hxl] at hyc
   refine awp_exit ?_
   try simp only [go_sem, seval]
   refine hK1 _ _ _ ?_
   first | clear hK1 K1 | skip
   refine awp_reg zs [5] fun K hK => ?_
   try simp only [go_sem, seval]
   refine callK_use Tryz.func65 rfl rfl rfl (hyc) ?_
   refine hK _ _ _ ?_; clear hK K
   refine awp_rq zs [2, 3] ?_
   refine awp_ret ?_
   try simp only [go_sem, seval]
   rw [hs]
   first
   | exact ⟨_, rfl, AnsU.nil _ _ _, by omega, hrest1 _ _⟩
   | (refine ⟨_, rfl, .inr ⟨n + 1, acc.length, ys, by rw [hyp.length_eq, hxl], by rw [hye, hxe], Heap.put_same _ _ _, by omega, by omega, ((hmine.perm hyp).mono (fun k h1 h2 => Heap.put_ne _ _ (by omega)) (Nat.le_refl _)).low (by omega), fun hin => by have := ((hmine.perm hyp).in' hin).1; omega⟩, by omega, fun k hk => (Heap.put_ne _ _ (by omega)).trans (hrest k hk)⟩)
theorem c_retain_sorted (l : List Ent) (hl : l.length ≤ 1000000000) (hg : ∀ e ∈ l, e.fits) (H : Heap) (n : Nat) :
    Ret Tryz.prog 36 [entsAV l] H n (.tup [entsAV (sortedE l).1, .int .i64 (sortedE l).2]) H n := AnsK.fin (u_retain_sorted l hl hg H n)
theorem badsE_fits (s : List Fml) : ∀ (l : List Ent), badsE s l = 0 → ∀ e ∈ l, checkedE s e = 0 := by
  intro l
  induction l with
  | nil => intro _ e he; cases he
  | cons x l ih =>
    intro h e he
    rw [badsE] at h
    split at h
    · rename_i h1; exact absurd h h1
    · rename_i h1
      rcases List.mem_cons.1 he with rfl | he
      · simpa using h1
      · exact ih h e he
theorem checkedE_zero {s : List Fml} {e : Ent} (h : checkedE s e = 0) : checkE e = 0 ∧ e.fam < s.length := by
  unfold checkedE at h
  split at h
  · rename_i h1; exact absurd h h1
  · rename_i h1
    split at h
    · exact absurd h (by decide)
    · rename_i h2
      exact ⟨by simpa using h1, by omega⟩
theorem c_retain_prepare (s : List Fml) (clock : Int) (times : List Int) (ht : times.length ≤ 1048576) (k : Int) (l : List Ent) (hl : l.length ≤ 1000000000) (H : Heap) (n : Nat) :
    Ret Tryz.prog 41 [schAV s, .int .i64 clock, intsAV times, .int .i64 k, entsAV l] H n (.tup [entsAV (prepE s clock times k l).1, .int .i64 (prepE s clock times k l).2]) H n := by
  refine Ret.fin ?_
  refine acalls_of_awp Tryz.func41 rfl Tryz.ntmps41 (congrArg Array.toList Tryz.results41) (by simp) ?_
  simp only [go_sem]
  refine awp_rq zs [1, 2, 3, 4, 5] ?_
  refine awp_seq_k fun K1 hK1 => ?_
  refine awp_reg zs [4, 5, 12] fun K hK => ?_
  try simp only [go_sem, seval]
  refine callK_use Tryz.func72 rfl rfl rfl ((c_retain_bounds s clock times k ht _ _)) ?_
  try simp only [go_sem, seval]
  refine hK _ _ _ ?_; clear hK K
  refine awp_rq zs [4, 5, 12, 22] ?_
  refine awp_cnd (fun hb => ?_) (fun hb => ?_)
  ·skip
   have hb0 : boundsE s clock times k ≠ 0 := by simpa using hb
   have hp : prepE s clock times k l = ([], boundsE s clock times k) := by unfold prepE; rw [if_pos hb0]
   refine awp_rq zs [10, 11] ?_
   refine awp_ret ?_
   try simp only [go_sem, seval]
   rw [hp]
   refine ⟨_, rfl, ?_, ?_⟩
   · intro k hk; have h1 : k ≠ n := by omega
     have h2 : ∀ j, n + 1 ≤ j → k ≠ j := fun j hj => by omega
     first | (simp only [Heap.put, h1, if_false]; done) | exact hrest k hk | (rw [if_neg (by omega)]; exact hrest k hk)
   · first | exact .tup (.cons .nilsl (.cons (.kl trivial) .nil)) | exact .kl ⟨kls_ents _ _, trivial, trivial⟩
  ·skip
   have hb0 : ¬ boundsE s clock times k ≠ 0 := by simpa using hb
   refine awp_skip ?_
   try simp only [go_sem, seval]
   refine hK1 _ _ _ ?_
   first | clear hK1 K1 | skip
   refine awp_seq_k fun K2 hK2 => ?_
   refine awp_rq zs [4, 5, 24, 25, 26] ?_
   refine awp_block ?_
   refine awp_loop (fun T' H' n' => ∃ (i : Nat), i ≤ l.length ∧ T' = tl [(4, .sl 7 (l.map entAV)), (5, .loc n 0 0 0 []), (24, .sl 7 (l.map entAV)), (25, .int .i64 l.length), (26, .int .i64 i)] ∧ n + 1 ≤ n' ∧ H' n = some (.arr 0 1 [schAV s]) ∧ (∀ k, k < n → H' k = H k) ∧ badsE s (l.drop i) = badsE s l) (fun T' _ _ => l.length - iv (T' 26)) ?_ ?_
   ·skip
    refine ⟨0, Nat.zero_le _, by rw [List.length_map]; rfl, by omega, ?_, ?_, rfl⟩
    · simp [Heap.put, schAV]
    · intro k hk; rw [Heap.put_ne _ _ (by omega)]
   intro T1 H1 n1
   rintro ⟨i, hi, rfl, hn, hsc, hrest, hd⟩
   refine awp_rq zs [4, 5, 24, 25, 26, 27] ?_
   refine awp_seq_k fun K3 hK3 => ?_
   refine awp_cnd (fun hb => ?_) (fun hb => ?_)
   ·skip
    have hlt : i < l.length := by simpa using hb
    rw [drop_cons l i hlt, badsE] at hd
    have hnth : nth (l.map entAV) i = entAV (l.getD i default) := nth_map entAV l i hlt
    generalize l.getD i default = e at *
    have q1 : (n = n1) = False := by simp; omega
    have q2 : (n1 = n) = False := by simp; omega
    refine awp_skip ?_
    try simp only [go_sem, seval]
    refine hK3 _ _ _ ?_
    first | clear hK3 K3 | skip
    refine awp_seq_k fun K4 hK4 => ?_
    refine awp_block ?_
    refine awp_reg zs [4, 5, 14, 24, 25, 26] fun K hK => ?_
    try simp only [go_sem, seval, Int.toNat_natCast, hnth]
    repeat refine peel ?_
    refine hK _ _ _ ?_; clear hK K
    refine awp_reg zs [4, 5, 15, 24, 25, 26] fun K hK => ?_
    try simp only [go_sem, seval, hsc, q1]
    refine callK_use Tryz.func73 rfl rfl rfl ((c_retain_checked s e _ _)) ?_
    try simp only [go_sem, seval]
    refine hK _ _ _ ?_; clear hK K
    refine awp_rq zs [4, 5, 15, 24, 25, 26, 34] ?_
    refine awp_cnd (fun hb => ?_) (fun hb => ?_)
    ·skip
     have hne : checkedE s e ≠ 0 := by simpa using hb
     rw [if_pos hne] at hd
     have hp : prepE s clock times k l = ([], checkedE s e) := by unfold prepE; rw [if_neg hb0, ← hd, if_pos hne]
     refine awp_rq zs [10, 11] ?_
     refine awp_ret ?_
     try simp only [go_sem, seval]
     rw [hp]
     refine ⟨_, rfl, ?_, ?_⟩
     · intro k hk; have h1 : k ≠ n := by omega
       have h2 : ∀ j, n + 1 ≤ j → k ≠ j := fun j hj => by omega
       first | (simp only [Heap.put, h1, if_false]; done) | exact hrest k hk | (rw [if_neg (by omega)]; exact hrest k hk)
     · first | exact .tup (.cons .nilsl (.cons (.kl trivial) .nil)) | exact .kl ⟨kls_ents _ _, trivial, trivial⟩
    ·skip
     have hne : ¬ checkedE s e ≠ 0 := by simpa using hb
     rw [if_neg hne] at hd
     refine awp_skip ?_
     try simp only [go_sem, seval]
     refine hK4 _ _ _ ?_
     first | clear hK4 K4 | skip
     refine awp_reg1 zs [4, 5, 24, 25, 26] fun K hK => ?_
     try simp only [go_sem, seval]
     refine hK _ _ _ ?_; clear hK K
     try simp only [go_sem, seval]
     refine ⟨⟨i + 1, by omega, by rw [w1 (by omega)], by omega, ?_, ?_, hd⟩, by rw [w1 (by omega)]; simp; omega⟩
     · simp [Heap.put, q1, hsc, schAV]
     · intro k hk; have h1 : k ≠ n1 := by omega
       simp only [Heap.put, h1, if_false]; exact hrest k hk
   ·skip
    have hge : i = l.length := by simp at hb; omega
    rw [hge, List.drop_length, badsE] at hd
    have hp : prepE s clock times k l = sortedE l := by unfold prepE; rw [if_neg hb0, ← hd]; simp
    refine awp_exit ?_
    try simp only [go_sem, seval]
    refine hK2 _ _ _ ?_
    first | clear hK2 K2 | skip
    refine awp_reg zs [10, 11] fun K hK => ?_
    try simp only [go_sem, seval]
    refine callK_use Tryz.func36 rfl rfl rfl ((c_retain_sorted l hl (fun e he => fits_of (checkedE_zero (badsE_fits s l hd.symm e he)).1) _ _)) ?_
    try simp only [go_sem, seval]
    refine hK _ _ _ ?_; clear hK K
    refine awp_ret ?_
    try simp only [go_sem, seval]
    rw [hp]
    refine ⟨_, rfl, ?_, ?_⟩
    · intro k hk; have h1 : k ≠ n := by omega
      have h2 : ∀ j, n + 1 ≤ j → k ≠ j := fun j hj => by omega
      first | (simp only [Heap.put, h1, if_false]; done) | exact hrest k hk | (rw [if_neg (by omega)]; exact hrest k hk)
    · first | exact .tup (.cons .nilsl (.cons (.kl trivial) .nil)) | exact .kl ⟨kls_ents _ _, trivial, trivial⟩
end Go.Proofs.YtijhkfhflpmajaaGreat
namespace Go.Proofs.YtijhkfhflpmajaaGreat
open Go Go.Sx Go.Rt Go.Proofs
theorem goodE_of {s : List Fml} {e : Ent} (h : checkedE s e = 0) : goodE s e := by
  obtain ⟨h1, h2⟩ := checkedE_zero h
  have hf := fits_of h1
  unfold checkE at h1
  repeat' split at h1
  all_goals first | (exact absurd h1 (by decide)) | skip
  rename_i g1 g2 g3 g4 g5 g6 g7
  have g2 := bout_false (Bool.eq_false_iff.2 g2)
  have g4 := bout_false (Bool.eq_false_iff.2 g4)
  exact ⟨by omega, h2, hf, by omega, by omega⟩
theorem ttl_of {s : List Fml} (h : schemaE s = 0) : ∀ f ∈ s, 0 ≤ f.ttl ∧ f.ttl ≤ 1099511627776 := by
  unfold schemaE at h
  split at h
  · exact absurd h (by decide)
  split at h
  · exact absurd h (by decide)
  rename_i h1 h2
  have key : ∀ (all l : List Fml) (i : Nat), famsBad all l i = false → ∀ f ∈ l, 0 ≤ f.ttl ∧ f.ttl ≤ 1099511627776 := by
    intro all l
    induction l with
    | nil => intro i _ f hf; cases hf
    | cons x l ih =>
      intro i h f hf
      rw [famsBad_cons] at h
      simp only [Bool.or_eq_false_iff] at h
      rcases List.mem_cons.1 hf with rfl | hf
      · have := h.1
        simp only [famBad, Bool.or_eq_false_iff] at this
        have := bout_false this.2
        omega
      · exact ih _ h.2 f hf
  exact key s s 0 (Bool.eq_false_iff.2 h2)
theorem boundsE_zero {s : List Fml} {clock : Int} {times : List Int} {k : Int} (h : boundsE s clock times k = 0) : schemaE s = 0 ∧ timesBad (clock :: times) = false ∧ bout k 1 16 = false := by
  unfold boundsE at h
  split at h
  · rename_i h1; exact absurd h h1
  split at h
  · exact absurd h (by decide)
  split at h
  · exact absurd h (by decide)
  rename_i h1 h2 h3
  exact ⟨by simpa using h1, Bool.eq_false_iff.2 h2, Bool.eq_false_iff.2 h3⟩
theorem sortedE_mem {l m : List Ent} (h : ddE [] l = some m) : ∀ e ∈ stabL ltE m, e ∈ l := by
  intro e he
  have := (stabL_mem m e).1 he
  rcases ddE_sub l [] m h e this with h | h
  · cases h
  · exact h
theorem prepE_zero {s : List Fml} {clock : Int} {times : List Int} {k : Int} {l : List Ent} (h : (prepE s clock times k l).2 = 0) :
    boundsE s clock times k = 0 ∧ badsE s l = 0 ∧ prepE s clock times k l = sortedE l ∧ (∀ e ∈ (prepE s clock times k l).1, e ∈ l ∧ checkedE s e = 0) ∧ (prepE s clock times k l).1.length ≤ l.length := by
  unfold prepE at h ⊢
  by_cases h1 : boundsE s clock times k ≠ 0
  · rw [if_pos h1] at h; exact absurd h h1
  · rw [if_neg h1] at h ⊢
    by_cases h2 : badsE s l ≠ 0
    · rw [if_pos h2] at h; exact absurd h h2
    · rw [if_neg h2] at h ⊢
      have h2 : badsE s l = 0 := by simpa using h2
      refine ⟨by simpa using h1, h2, rfl, ?_⟩
      unfold sortedE at h ⊢
      cases hd : ddE [] l with
      | none => rw [hd] at h; exact absurd h (by decide)
      | some m =>
        refine ⟨fun e he => ?_, ?_⟩
        · have := sortedE_mem hd e he
          exact ⟨this, badsE_fits s l h2 e this⟩
        · show (stabL ltE m).length ≤ _
          rw [stabL_length]
          have := ddE_length l [] m hd
          simpa using this
def kInv (i : Nat) (st : KSt) : Prop := 0 ≤ st.older ∧ 0 ≤ st.masked ∧ 0 ≤ st.expired ∧ 0 ≤ st.above ∧ 0 ≤ st.marks ∧ st.older + st.masked + st.expired + st.above + st.marks + st.out.length ≤ i
theorem kept_inv (kw kt ko lo : Nat) (h : KSep kw kt ko lo) : TkInv (keptTk kw kt ko lo h) KSt.ok 1000000000000 kInv where
  ok := fun i st hi ⟨h1, h2, h3, h4, h5, h6⟩ => ⟨h1, h2, h3, h4, h5, by omega⟩
  up := fun i st ⟨h1, h2, h3, h4, h5, h6⟩ => ⟨h1, h2, h3, h4, h5, by omega⟩
  g := fun i s st d ⟨h1, h2, h3, h4, h5, h6⟩ => by
    show kInv _ (keptG s st d)
    unfold keptG
    repeat' split
    all_goals (refine ⟨?_, ?_, ?_, ?_, ?_, ?_⟩ <;> simp <;> omega)
  o := fun i st ⟨h1, h2, h3, h4, h5, h6⟩ => by
    show kInv _ (keptO st)
    refine ⟨?_, ?_, ?_, ?_, ?_, ?_⟩ <;> simp [keptO] <;> omega
  m := fun i st e b ⟨h1, h2, h3, h4, h5, h6⟩ => by
    show kInv _ (keptM st e b)
    unfold keptM
    split <;> (refine ⟨?_, ?_, ?_, ?_, ?_, ?_⟩ <;> simp <;> omega)
theorem kept_run (kw kt ko lo : Nat) (h : KSep kw kt ko lo) (s : List Fml) (clock low : Int) (major : Bool) (m : List Ent) :
    (runW (keptTk kw kt ko lo h) m (wlk0 s clock) (kst0 major low)).2 = keptOf s clock major low m := runW_ev _ m _ _
theorem kInv0 (major : Bool) (low : Int) : kInv 0 (kst0 major low) := by simp [kInv, kst0]
theorem wrk0 (s : List Fml) (clock : Int) : WRk s 0 (wlk0 s clock) := ⟨rfl, fun h => by simp [wlk0] at h, Int.le_refl _, Int.le_refl _⟩
theorem u_retain_Squash (s : List Fml) (clock low : Int) (major : Bool) (l : List Ent) (hl : l.length ≤ 100000000) (H : Heap) (n : Nat) :
    ACalls Tryz.prog 22 [schAV s, .int .i64 clock, .bool major, .int .i64 low, entsAV l] H n (AnsK n H (squashE s clock major low l).1 (squashE s clock major low l).2) := by
  refine acalls_of_awp Tryz.func22 rfl Tryz.ntmps22 (congrArg Array.toList Tryz.results22) (by simp) ?_
  simp only [go_sem]
  refine awp_rq zs [1, 2, 3, 4, 5] ?_
  refine awp_reg zs [1, 2, 3, 4, 5, 12] fun K hK => ?_
  try simp only [go_sem, seval]
  repeat (first | (refine And.intro ?_ ?_; · first | exact ⟨rfl, by simp [AV.sz, AV.memOK]⟩) | refine peel ?_)
  refine callK_use Tryz.func41 rfl rfl rfl ((c_retain_prepare s clock [low] (by simp) 1 l (by omega) _ _)) ?_
  try simp only [go_sem, seval]
  repeat (first | (refine And.intro ?_ ?_; · first | exact ⟨rfl, by simp [AV.sz, AV.memOK]⟩) | refine peel ?_)
  refine hK _ _ _ ?_; clear hK K
  refine awp_seq_k fun K1 hK1 => ?_
  refine awp_rq zs [1, 2, 3, 4, 5, 12, 25] ?_
  refine awp_cnd (fun hb => ?_) (fun hb => ?_)
  ·skip
   have hne : (prepE s clock [low] 1 l).2 ≠ 0 := by simpa using hb
   have hq : squashE s clock major low l = ([], (prepE s clock [low] 1 l).2) := by unfold squashE; rw [if_pos hne]
   refine awp_rq zs [10, 11] ?_
   refine awp_ret ?_
   try simp only [go_sem, seval]
   rw [hq]
   first
   | exact ⟨_, rfl, AnsU.nil _ _ _, by omega, fun k hk => Heap.put_ne _ _ (by omega)⟩
   | (have hle3 := hL.le
      have hf9 := hh.f
      refine ⟨_, rfl, .inr ⟨ko, xs.length, xs, by rw [← hxe]; simp, hxe, hh2, by omega, by omega, hm3.low (by omega), fun hin => by have := (hm3.in' hin).1; omega⟩, by omega, fun k hk => ?_⟩
      rw [hL.rest k (by omega) (show k ≠ kw by omega) (fun h => by rcases h with h | h <;> omega), hlow k (by omega), Heap.put_ne _ _ (by omega)])
  ·skip
   have hne : (prepE s clock [low] 1 l).2 = 0 := by simpa using hb
   have hq : squashE s clock major low l = ((keptOf s clock major low (prepE s clock [low] 1 l).1).out, 0) := by unfold squashE; rw [if_neg (by simp [hne])]
   obtain ⟨hbz, _, _, hmem, hlen⟩ := prepE_zero hne
   generalize (prepE s clock [low] 1 l).1 = m at *
   refine awp_skip ?_
   try simp only [go_sem, seval]
   refine hK1 _ _ _ ?_
   first | clear hK1 K1 | skip
   refine awp_reg zs [4, 13, 14] fun K hK => ?_
   try simp only [go_sem, seval]
   refine callK_useK (args' := [schAV s, .int .i64 clock, .bool major, .int .i64 low]) Tryz.func45 rfl rfl rfl (c_retain_keeping s clock low major _ (n + 1)) ?_ ?_
   rotate_left
   · intro p H' n' h; obtain ⟨kw, kt, ko, lo, hh, hres, _⟩ := h; cases hres
   rintro r H2 n2 ⟨kw, kt, ko, lo, hh, hres, hkw, hkt, hko, hn2, hlo2, hah, hlow⟩
   cases hres
   try simp only [go_sem, seval]
   refine hK _ _ _ ?_; clear hK K
   refine awp_reg zs [14] fun K hK => ?_
   try simp only [go_sem, seval]
   refine callK_useK (args' := [.loc kw 0 0 0 [], entsAV m]) Tryz.func43 rfl rfl rfl (c_retain_walk_run (keptTk kw kt ko lo hh) KSt.ok (kept_tkOK kw kt ko lo hh) 1000000000000 kInv (kept_inv kw kt ko lo hh) s (ttl_of (boundsE_zero hbz).1) m (wlk0 s clock) (kst0 major low) H2 n2 hah (by omega) (by omega) (kInv0 major low) (wrk0 s clock) (fun e he => goodE_of (hmem e he).2)) ?_ ?_
   rotate_left
   · intro p H' n' h; cases h.1
   rintro r H3 n3 ⟨hr3, hL⟩
   cases hr3
   obtain ⟨hlo3, hh1, xs, hxe, hh2, hm3⟩ := hL.tk
   rw [kept_run] at hh1 hxe
   simp only [keptAV] at hh1
   refine hK _ _ _ ?_; clear hK K
   refine awp_reg zs [10, 11] fun K hK => ?_
   try simp only [go_sem, seval, hh1]
   refine hK _ _ _ ?_; clear hK K
   refine awp_ret ?_
   try simp only [go_sem, seval]
   rw [hq]
   first
   | exact ⟨_, rfl, AnsU.nil _ _ _, by omega, fun k hk => Heap.put_ne _ _ (by omega)⟩
   | (have hle3 := hL.le
      have hf9 := hh.f
      refine ⟨_, rfl, .inr ⟨ko, xs.length, xs, by rw [← hxe]; simp, hxe, hh2, by omega, by omega, hm3.low (by omega), fun hin => by have := (hm3.in' hin).1; omega⟩, by omega, fun k hk => ?_⟩
      rw [hL.rest k (by omega) (show k ≠ kw by omega) (fun h => by rcases h with h | h <;> omega), hlow k (by omega), Heap.put_ne _ _ (by omega)])
theorem c_retain_Squash (s : List Fml) (clock low : Int) (major : Bool) (l : List Ent) (hl : l.length ≤ 100000000) (H : Heap) (n : Nat) :
    Ret Tryz.prog 22 [schAV s, .int .i64 clock, .bool major, .int .i64 low, entsAV l] H n (.tup [entsAV (squashE s clock major low l).1, .int .i64 (squashE s clock major low l).2]) H n := AnsK.fin (u_retain_Squash s clock low major l hl H n)
theorem keptG_len (f : List Fml) (st : KSt) (d : Dec) : (keptG f st d).out.length ≤ st.out.length + 1 := by
  unfold keptG; repeat' split
  all_goals simp
theorem keptM_len (st : KSt) (e : Ent) (b : Bool) : (keptM st e b).out.length ≤ st.out.length + 1 := by
  unfold keptM; split <;> simp
theorem evT_len (f : List Fml) : ∀ (l : List Ev) (st : KSt), (l.foldl (evT (keptG f) keptO keptM) st).out.length ≤ st.out.length + l.length := by
  intro l
  induction l with
  | nil => intro st; simp
  | cons v l ih =>
    intro st
    rw [List.foldl_cons]
    have h1 := ih (evT (keptG f) keptO keptM st v)
    have h2 : (evT (keptG f) keptO keptM st v).out.length ≤ st.out.length + 1 := by
      cases v with
      | g d => exact keptG_len f st d
      | o => show st.out.length ≤ _; omega
      | m e b => exact keptM_len st e b
    simp only [List.length_cons]
    omega
theorem closeV_len (w : Wlk) : (closeV w).length ≤ 1 := by unfold closeV; split <;> simp
theorem evN_len (w : Wlk) (e : Ent) : (evN w e).length ≤ 2 := by
  unfold evN ev1 ev5
  have := closeV_len w
  simp only [List.length_append]
  have h1 : (bif endsE w e then closeV w else []).length ≤ 1 := by cases endsE w e <;> simp; exact this
  have h2 : ∀ w' : Wlk, (if e.kind = 5 then [Ev.m e (w'.famMask == 0)] else if e.kind = 4 then [Ev.m e (bif w'.colMask == 0 then decide (w'.famMask < e.ts) else false)] else if w'.opn = false then [] else [Ev.o]).length ≤ 1 := by
    intro w'; repeat' split
    all_goals simp
  have := h2 (nx4 (nx3 (nx2 (nx1 w e) e) e) e)
  omega
theorem evP_len : ∀ (l : List Ent) (w : Wlk), (evP l w).length ≤ 2 * l.length + 1 := by
  intro l
  induction l with
  | nil => intro w; exact closeV_len w
  | cons e l ih =>
    intro w
    rw [evP, List.length_append]
    have := ih (nextW w e)
    have := evN_len w e
    simp only [List.length_cons]
    omega
theorem squashE_length (s : List Fml) (clock : Int) (major : Bool) (low : Int) (l : List Ent) : (squashE s clock major low l).1.length ≤ 2 * l.length + 1 := by
  unfold squashE
  split
  · simp
  · rename_i h
    obtain ⟨_, _, _, _, hlen⟩ := prepE_zero (by simpa using h)
    have h1 := evT_len s (evP (prepE s clock [low] 1 l).1 (wlk0 s clock)) (kst0 major low)
    have h2 := evP_len (prepE s clock [low] 1 l).1 (wlk0 s clock)
    show (keptOf s clock major low _).out.length ≤ _
    unfold keptOf
    have h3 : (kst0 major low).out.length = 0 := rfl
    omega
end Go.Proofs.YtijhkfhflpmajaaGreat
namespace Go.Proofs.YtijhkfhflpmajaaGreat
open Go Go.Sx Go.Rt Go.Proofs
def SSt.ok (s : SSt) : Prop := 0 ≤ s.count ∧ s.count + s.out.length ≤ 1000000000000
def shownAV (kw ko : Nat) (s : SSt) : AV := .agg [.int .i64 s.t, .int .i64 s.n, .osl ko s.out.length 0 s.out.length, .int .i64 s.count, entAV s.last, .loc kw 0 0 0 []]
def shownTk (kw kt ko lo : Nat) (h : KSep kw kt ko lo) : Tk Tryz.prog where
  σ := SSt
  kw := kw
  recv := .loc kt 0 0 0 []
  g := 74
  o := 75
  m := 76
  fg := ⟨_, Tryz.func74, rfl, rfl⟩
  fo := ⟨_, Tryz.func75, rfl, rfl⟩
  fm := ⟨_, Tryz.func76, rfl, rfl⟩
  keys := fun k => k = kt ∨ k = ko
  kwn := by simp [h.a, h.b]
  holds := fun s H n => lo ≤ n ∧ H kt = some (.arr 0 12 [shownAV kw ko s]) ∧ outAt H n ko lo s.out
  ext := fun s H H' n n' hn hk ⟨a, c, d⟩ => ⟨by omega, (hk kt (Nat.lt_of_lt_of_le h.e a) (Ne.symm h.a)).trans c, d.mono (hk ko (Nat.lt_of_lt_of_le h.f a) (Ne.symm h.b)) (fun k h1 h2 => hk k h2 (by have := h.d; omega)) hn⟩
  grp := shownG
  old := id
  mrk := fun st _ _ => st
section
variable {kw kt ko lo : Nat} {h : KSep kw kt ko lo} {w : Wlk} {H H1 : Heap} {n n1 : Nat}
theorem shown_left (hlo : lo ≤ n) (st' : SSt) (hn : n ≤ n1) (hw : H1 kw = some (.arr 0 25 [walkAV (shownTk kw kt ko lo h) w])) (hto : outAt H1 n1 ko lo st'.out)
    (hrest : ∀ k, k < n → k ≠ kw → k ≠ kt → k ≠ ko → H1 k = H k) : LeftU (shownTk kw kt ko lo h) H n w st' (.val (.tup [])) (H1.put kt (some (.arr 0 12 [shownAV kw ko st']))) n1 :=
  ⟨rfl, hn, (Heap.put_ne _ _ h.a).trans hw, ⟨by omega, by simp [Heap.put], hto.mono (Heap.put_ne _ _ (Ne.symm h.c)) (fun k h1 h2 => Heap.put_ne _ _ (by have := h.e; omega)) (Nat.le_refl _)⟩, fun k hk h1 h2 => by
    have h3 : k ≠ kt := fun e => h2 (.inl e)
    have h4 : k ≠ ko := fun e => h2 (.inr e)
    exact (Heap.put_ne _ _ h3).trans (hrest k hk h1 h3 h4)⟩
theorem shown_app (hlo : lo ≤ n) (st : SSt) (c : Int) (l' : Ent) (xs : List LEnt) (x : LEnt) (hxe : xs.map (·.e) = st.out) (hm : MineL H lo n xs) (hx : x.mine H1 n n1) (hn : n ≤ n1) (hw : H1 kw = some (.arr 0 25 [walkAV (shownTk kw kt ko lo h) w]))
    (hrest : ∀ k, k < n → k ≠ kt → H1 k = H k) :
    LeftU (shownTk kw kt ko lo h) H n w { st with count := c, last := l', out := st.out ++ [x.e] } (.val (.tup []))
      ((H1.put ko (some (.arr (st.out.length + 1) 7 (List.take st.out.length (xs.map lentAV) ++ [lentAV x])))).put kt (some (.arr 0 12 [.agg [.int .i64 st.t, .int .i64 st.n, .osl ko (st.out.length + 1) 0 (st.out.length + 1), .int .i64 c, entAV l', .loc kw 0 0 0 []]]))) n1 := by
  have hl : xs.length = st.out.length := by rw [← hxe]; simp
  have := shown_left (h := h) (w := w) (H := H) (H1 := H1.put ko (some (.arr (st.out.length + 1) 7 (List.take st.out.length (xs.map lentAV) ++ [lentAV x])))) (n1 := n1) hlo { st with count := c, last := l', out := st.out ++ [x.e] } hn
    ((Heap.put_ne _ _ h.b).trans hw) ⟨xs ++ [x], by simp [hxe], by simp [Heap.put, hl, List.take_of_length_le], ((hm.mono (fun k h1 h2 => hrest k h2 (by have := h.e; omega)) (Nat.le_refl _)).snoc hx hlo hn).mono (fun k h1 h2 => Heap.put_ne _ _ (by have := h.f; omega)) (Nat.le_refl _)⟩ (fun k hk h1 h2 h3 => (Heap.put_ne _ _ h3).trans (hrest k hk h2))
  simpa [shownAV] using this
theorem shown_stay (hlo : lo ≤ n) (st : SSt) (hn : n ≤ n1) (hw : H1 kw = some (.arr 0 25 [walkAV (shownTk kw kt ko lo h) w])) (htk : H1 kt = some (.arr 0 12 [shownAV kw ko st])) (hto : outAt H1 n1 ko lo st.out)
    (hrest : ∀ k, k < n → k ≠ kw → k ≠ kt → k ≠ ko → H1 k = H k) : LeftU (shownTk kw kt ko lo h) H n w st (.val (.tup [])) H1 n1 :=
  ⟨rfl, hn, hw, ⟨by omega, htk, hto⟩, fun k hk h1 h2 => hrest k hk h1 (fun e => h2 (.inl e)) (fun e => h2 (.inr e))⟩
end
theorem shown_older (kw kt ko lo : Nat) (h : KSep kw kt ko lo) (w : Wlk) (st : SSt) (H : Heap) (n : Nat) (ha : Ahead (shownTk kw kt ko lo h) H n w st) :
    ACalls Tryz.prog 75 [.loc kt 0 0 0 []] H n (LeftU (shownTk kw kt ko lo h) H n w st) := by
  obtain ⟨hkw, hkeys, hw, hlo, htk, hto⟩ := ha
  refine acalls_of_awp Tryz.func75 rfl Tryz.ntmps75 (congrArg Array.toList Tryz.results75) (by simp) ?_
  simp only [go_sem]
  refine awp_skip ?_
  try simp only [go_sem, seval]
  exact shown_stay hlo st (Nat.le_refl _) hw htk hto (fun k _ _ _ _ => rfl)
theorem shown_mark (kw kt ko lo : Nat) (h : KSep kw kt ko lo) (w : Wlk) (st : SSt) (e : Ent) (b : Bool) (H : Heap) (n : Nat) (ha : Ahead (shownTk kw kt ko lo h) H n w st) :
    ACalls Tryz.prog 76 [.loc kt 0 0 0 [], entAV e, .bool b] H n (LeftU (shownTk kw kt ko lo h) H n w st) := by
  obtain ⟨hkw, hkeys, hw, hlo, htk, hto⟩ := ha
  have hkt : kt < n := hkeys kt (.inl rfl)
  have hko : ko < n := hkeys ko (.inr rfl)
  have hkw' : kw < n := hkw
  refine acalls_of_awp Tryz.func76 rfl Tryz.ntmps76 (congrArg Array.toList Tryz.results76) (by simp) ?_
  simp only [go_sem]
  refine awp_reg1 zs [] fun K hK => ?_
  try simp only [go_sem, seval]
  refine hK _ _ _ ?_; clear hK K
  try simp only [go_sem, seval]
  exact shown_stay hlo st (by omega) ((Heap.put_ne _ _ (by omega)).trans hw) ((Heap.put_ne _ _ (by omega)).trans htk) (hto.mono (Heap.put_ne _ _ (by omega)) (fun k _ _ => Heap.put_ne _ _ (by omega)) (by omega)) (fun k hk _ _ _ => Heap.put_ne _ _ (by omega))
theorem shown_group (kw kt ko lo : Nat) (h : KSep kw kt ko lo) (w : Wlk) (st : SSt) (d : Dec) (H : Heap) (n : Nat) (ha : Ahead (shownTk kw kt ko lo h) H n w st) (hok : SSt.ok st) (hf0 : 0 ≤ d.e.fam) (hf1 : d.e.fam < w.s.length) (he : d.e.fits) :
    ACalls Tryz.prog 74 [.loc kt 0 0 0 [], decAV d] H n (LeftU (shownTk kw kt ko lo h) H n w (shownG w.s st d)) := by
  obtain ⟨hkw, hkeys, hw, hlo, htk, hto0⟩ := ha
  obtain ⟨xs, hxe, hto, hm⟩ := id hto0
  have hxl : xs.length = st.out.length := by rw [← hxe]; simp
  rw [hxl] at hto
  have hkt : kt < n := hkeys kt (.inl rfl)
  have hko : ko < n := hkeys ko (.inr rfl)
  have hkw' : kw < n := hkw
  obtain ⟨k1, k2⟩ := hok
  have ht := htk
  have hww := hw
  simp only [shownAV] at ht
  simp only [walkAV, tkAV] at hww
  have hww : H kw = _ := hww
  have hlen : (st.out.length + 1) * 104 ≤ 140737488355328 := by omega
  have q1 : (kt = n) = False := by simp; omega
  have q2 : (ko = n) = False := by simp; omega
  have q3 : (n = kt) = False := by simp; omega
  have q4 : (n = ko) = False := by simp; omega
  have q5 : (kt = ko) = False := by simp [h.c]
  have q6 : (ko = kt) = False := by simp [Ne.symm h.c]
  have q7 : (kw = n) = False := by simp; omega
  have r1 : (0 : Nat) = 0 := rfl
  have r2 : (0 : Nat) = 0 := rfl
  have hnth : nth (w.s.map famAV) d.e.fam.toNat = famAV (famAt w.s d.e.fam) := nth_map famAV _ _ (by omega)
  refine acalls_of_awp Tryz.func74 rfl Tryz.ntmps74 (congrArg Array.toList Tryz.results74) (by simp) ?_
  simp only [go_sem]
  refine awp_reg zs [0, 3] fun K hK => ?_
  try simp only [go_sem, seval]
  refine hK _ _ _ ?_; clear hK K
  refine awp_seq_k fun K1 hK1 => ?_
  refine awp_drw rfl zs [0, 3, 39] [.q, .q, .q, .m, .q, .q, .m, .q, .q, .q, .q, .q, .q, .q, .q, .q, .q, .q, .q, .q, .q, .q, .m, .q, .q, .q, .m, .q, .q, .q, .m, .q, .q, .q, .q, .q] (by kernel_rfl) (fun _ _ _ _ _ h => h) fun K hK => ?_
  try simp only [go_sem, seval, ht, hww, q1, q7, hnth]
  repeat refine peel ?_
  refine hK _ _ _ ?_; clear hK K
  refine awp_cnd (fun hb => ?_) (fun hb => ?_)
  ·skip
   have c1 : unseen w.s st d = true := hb
   have hG : shownG w.s st d = st := by unfold shownG; rw [if_pos c1]
   refine awp_ret ?_
   try simp only [go_sem, seval]
   have g1 : ∀ (o : Option AObj), (H.put n o) kw = H kw := fun o => Heap.put_ne _ _ (by omega)
   have g2 : ∀ (o : Option AObj) k, k < n → (H.put n o) k = H k := fun o k hk => Heap.put_ne _ _ (by omega)
   have g3 : ∀ (o o' : Option AObj) k, k < n → k ≠ kt → ((H.put n o).put kt o') k = H k := fun o o' k hk h1 => (Heap.put_ne _ _ h1).trans (g2 _ _ hk)
   have g5 : ∀ (o : Option AObj), outAt (H.put n o) (n + 1) ko lo st.out := fun o => hto0.mono (g2 _ ko hko) (fun k _ h2 => g2 _ k h2) (by omega)
   rw [hG]
   try rw [c2]
   first
   | exact shown_stay hlo st (by omega) ((g1 _).trans hw) ((g2 _ kt hkt).trans htk) (g5 _) (fun k hk _ _ _ => g2 _ k hk)
   | exact shown_left hlo { st with count := 0 } (by omega) ((g1 _).trans hw) (g5 _) (fun k hk _ _ _ => g2 _ k hk)
   | (rw [← hxe2]; exact shown_app hlo st (0 + 1) x.e xs x hxe hm (hmx.low (by omega)) (by omega) ((hlow kw (by omega)).trans ((g3 _ _ kw hkw' h.a).trans hw)) (fun k hk h1 => (hlow k (by omega)).trans (g3 _ _ k hk h1)))
   | (rw [← hxe2]; exact shown_app hlo st (st.count + 1) x.e xs x hxe hm (hmx.low (by omega)) (by omega) ((hlow kw (by omega)).trans ((g3 _ _ kw hkw' h.a).trans hw)) (fun k hk h1 => (hlow k (by omega)).trans (g3 _ _ k hk h1)))
  ·skip
   have c1 : ¬ unseen w.s st d = true := by rw [Bool.not_eq_true]; exact hb
   refine awp_skip ?_
   try simp only [go_sem, seval]
   refine hK1 _ _ _ ?_
   first | clear hK1 K1 | skip
   refine awp_seq_k fun K2 hK2 => ?_
   refine awp_drw rfl zs [0, 3, 54] [.m, .q, .q, .q, .q, .m, .m, .q, .q, .q, .q, .q, .c, .q, .q] (by kernel_rfl) (fun _ _ _ _ _ h => h) fun K hK => ?_
   try simp only [go_sem, seval, ht, q1]
   refine callQG_use Tryz.func109 rfl rfl rfl (fun _ n => (c_retain_sameCol st.last d.e _ _)) ?_
   try simp only [go_sem, seval]
   repeat refine peel ?_
   refine hK _ _ _ ?_; clear hK K
   refine awp_cnd (fun hb => ?_) (fun hb => ?_)
   ·skip
    have c2 : cnt1 st d = 0 := by unfold cnt1; rw [if_pos hb]
    have hwr : IntKind.i64.wrap (0 + 1) = 0 + 1 := rfl
    refine awp_reg1 zs [0, 3] fun K hK => ?_
    try simp only [go_sem, seval, ht, q1]
    refine hK _ _ _ ?_; clear hK K
    try simp only [go_sem, seval]
    refine hK2 _ _ _ ?_
    first | clear hK2 K2 | skip
    refine awp_drw rfl zs [0, 3, 66] [.m, .q, .q, .q, .m, .q, .q, .q, .q] (by kernel_rfl) (fun _ _ _ _ _ h => h) fun K hK => ?_
    try simp only [go_sem, seval]
    refine hK _ _ _ ?_; clear hK K
    refine awp_cnd (fun hb => ?_) (fun hb => ?_)
    ·skip
     have c3 : cnt1 st d < st.n := by rw [c2]; simpa using hb
     have hG : shownG w.s st d = { st with count := cnt1 st d + 1, last := d.e, out := st.out ++ [d.e] } := by unfold shownG; rw [if_neg c1, if_pos c3]
     refine awp_drw rfl zs [0, 3] [.m, .m, .m, .q, .q, .q, .q, .q, .q, .q, .q, .w [7, 8], .q, .q, .w []] (by kernel_rfl) (fun _ _ _ _ _ h => h) fun K hK => ?_
     try simp only [go_sem, seval, q3]
     refine hK _ _ _ ?_; clear hK K
     refine awp_drp1 rfl zs [] [.m, .m, .q, .q, .q, .q, .q, .w [2, 3, 4], .q, .w [], .q, .q, .w []] [0, 1, 2, 3, 4, 5, 6, 7, 8, 9, 10, 11, 12] [0, 1, 2, 3, 4, 5, 6, 7, 8, 9, 10, 11, 12] (by kernel_rfl) (fun _ _ _ _ _ h => h) fun K hK => ?_
     try simp only [go_sem, seval, q3]
     repeat (first | (refine And.intro ?_ ?_; · first | exact ⟨rfl, by simp [AV.sz, AV.szs, AV.memOK, lentAV, Lp.av]⟩ | (simp; omega)) | refine peel ?_)
     refine callK_useK (args' := [entAV d.e]) Tryz.func64 rfl rfl rfl (o_retain_copied d.e he _ _) ?_ ?_
     rotate_left
     · intro p H' n' h; obtain ⟨x, hx, _⟩ := h; cases hx
     rintro r H2 n2 ⟨x, hr2, hxe2, hn2, hmx, hlow⟩
     cases hr2
     have r1 := (hlow kt (by omega)).trans (Heap.put_same _ _ _)
     have r2 := (hlow ko (by omega)).trans ((Heap.put_ne _ _ (Ne.symm h.c)).trans ((Heap.put_ne _ _ (by omega)).trans hto))
     try simp only [go_sem, seval, q5, r1, r2]
     repeat (first | (refine And.intro ?_ ?_; · first | exact ⟨rfl, by simp [AV.sz, AV.szs, AV.memOK, lentAV, Lp.av]⟩ | (simp; omega)) | refine peel ?_)
     refine hK _ _ _ ?_; clear hK K
     try simp only [go_sem, seval]
     have g1 : ∀ (o : Option AObj), (H.put n o) kw = H kw := fun o => Heap.put_ne _ _ (by omega)
     have g2 : ∀ (o : Option AObj) k, k < n → (H.put n o) k = H k := fun o k hk => Heap.put_ne _ _ (by omega)
     have g3 : ∀ (o o' : Option AObj) k, k < n → k ≠ kt → ((H.put n o).put kt o') k = H k := fun o o' k hk h1 => (Heap.put_ne _ _ h1).trans (g2 _ _ hk)
     have g5 : ∀ (o : Option AObj), outAt (H.put n o) (n + 1) ko lo st.out := fun o => hto0.mono (g2 _ ko hko) (fun k _ h2 => g2 _ k h2) (by omega)
     rw [hG]
     try rw [c2]
     first
     | exact shown_stay hlo st (by omega) ((g1 _).trans hw) ((g2 _ kt hkt).trans htk) (g5 _) (fun k hk _ _ _ => g2 _ k hk)
     | exact shown_left hlo { st with count := 0 } (by omega) ((g1 _).trans hw) (g5 _) (fun k hk _ _ _ => g2 _ k hk)
     | (rw [← hxe2]; exact shown_app hlo st (0 + 1) x.e xs x hxe hm (hmx.low (by omega)) (by omega) ((hlow kw (by omega)).trans ((g3 _ _ kw hkw' h.a).trans hw)) (fun k hk h1 => (hlow k (by omega)).trans (g3 _ _ k hk h1)))
     | (rw [← hxe2]; exact shown_app hlo st (st.count + 1) x.e xs x hxe hm (hmx.low (by omega)) (by omega) ((hlow kw (by omega)).trans ((g3 _ _ kw hkw' h.a).trans hw)) (fun k hk h1 => (hlow k (by omega)).trans (g3 _ _ k hk h1)))
    ·skip
     have c3 : ¬ cnt1 st d < st.n := by rw [c2]; simpa using hb
     have hG : shownG w.s st d = { st with count := cnt1 st d } := by unfold shownG; rw [if_neg c1, if_neg c3]
     refine awp_skip ?_
     try simp only [go_sem, seval]
     have g1 : ∀ (o : Option AObj), (H.put n o) kw = H kw := fun o => Heap.put_ne _ _ (by omega)
     have g2 : ∀ (o : Option AObj) k, k < n → (H.put n o) k = H k := fun o k hk => Heap.put_ne _ _ (by omega)
     have g3 : ∀ (o o' : Option AObj) k, k < n → k ≠ kt → ((H.put n o).put kt o') k = H k := fun o o' k hk h1 => (Heap.put_ne _ _ h1).trans (g2 _ _ hk)
     have g5 : ∀ (o : Option AObj), outAt (H.put n o) (n + 1) ko lo st.out := fun o => hto0.mono (g2 _ ko hko) (fun k _ h2 => g2 _ k h2) (by omega)
     rw [hG]
     try rw [c2]
     first
     | exact shown_stay hlo st (by omega) ((g1 _).trans hw) ((g2 _ kt hkt).trans htk) (g5 _) (fun k hk _ _ _ => g2 _ k hk)
     | exact shown_left hlo { st with count := 0 } (by omega) ((g1 _).trans hw) (g5 _) (fun k hk _ _ _ => g2 _ k hk)
     | (rw [← hxe2]; exact shown_app hlo st (0 + 1) x.e xs x hxe hm (hmx.low (by omega)) (by omega) ((hlow kw (by omega)).trans ((g3 _ _ kw hkw' h.a).trans hw)) (fun k hk h1 => (hlow k (by omega)).trans (g3 _ _ k hk h1)))
     | (rw [← hxe2]; exact shown_app hlo st (st.count + 1) x.e xs x hxe hm (hmx.low (by omega)) (by omega) ((hlow kw (by omega)).trans ((g3 _ _ kw hkw' h.a).trans hw)) (fun k hk h1 => (hlow k (by omega)).trans (g3 _ _ k hk h1)))
   ·skip
    have c2 : cnt1 st d = st.count := by unfold cnt1; rw [if_neg (by rw [hb]; decide)]
    have hwr : IntKind.i64.wrap (st.count + 1) = st.count + 1 := w64 (by omega) (by omega)
    refine awp_skip ?_
    try simp only [go_sem, seval]
    refine hK2 _ _ _ ?_
    first | clear hK2 K2 | skip
    refine awp_drw rfl zs [0, 3, 66] [.m, .q, .q, .q, .m, .q, .q, .q, .q] (by kernel_rfl) (fun _ _ _ _ _ h => h) fun K hK => ?_
    try simp only [go_sem, seval, ht, q1]
    refine hK _ _ _ ?_; clear hK K
    refine awp_cnd (fun hb => ?_) (fun hb => ?_)
    ·skip
     have c3 : cnt1 st d < st.n := by rw [c2]; simpa using hb
     have hG : shownG w.s st d = { st with count := cnt1 st d + 1, last := d.e, out := st.out ++ [d.e] } := by unfold shownG; rw [if_neg c1, if_pos c3]
     refine awp_drw rfl zs [0, 3] [.m, .m, .m, .q, .q, .q, .q, .q, .q, .q, .q, .w [7, 8], .q, .q, .w []] (by kernel_rfl) (fun _ _ _ _ _ h => h) fun K hK => ?_
     try simp only [go_sem, seval, ht, q1, q3, hwr]
     refine hK _ _ _ ?_; clear hK K
     refine awp_drp1 rfl zs [] [.m, .m, .q, .q, .q, .q, .q, .w [2, 3, 4], .q, .w [], .q, .q, .w []] [0, 1, 2, 3, 4, 5, 6, 7, 8, 9, 10, 11, 12] [0, 1, 2, 3, 4, 5, 6, 7, 8, 9, 10, 11, 12] (by kernel_rfl) (fun _ _ _ _ _ h => h) fun K hK => ?_
     try simp only [go_sem, seval, q3]
     repeat (first | (refine And.intro ?_ ?_; · first | exact ⟨rfl, by simp [AV.sz, AV.szs, AV.memOK, lentAV, Lp.av]⟩ | (simp; omega)) | refine peel ?_)
     refine callK_useK (args' := [entAV d.e]) Tryz.func64 rfl rfl rfl (o_retain_copied d.e he _ _) ?_ ?_
     rotate_left
     · intro p H' n' h; obtain ⟨x, hx, _⟩ := h; cases hx
     rintro r H2 n2 ⟨x, hr2, hxe2, hn2, hmx, hlow⟩
     cases hr2
     have r1 := (hlow kt (by omega)).trans (Heap.put_same _ _ _)
     have r2 := (hlow ko (by omega)).trans ((Heap.put_ne _ _ (Ne.symm h.c)).trans ((Heap.put_ne _ _ (by omega)).trans hto))
     try simp only [go_sem, seval, q5, r1, r2]
     repeat (first | (refine And.intro ?_ ?_; · first | exact ⟨rfl, by simp [AV.sz, AV.szs, AV.memOK, lentAV, Lp.av]⟩ | (simp; omega)) | refine peel ?_)
     refine hK _ _ _ ?_; clear hK K
     try simp only [go_sem, seval]
     have g1 : ∀ (o : Option AObj), (H.put n o) kw = H kw := fun o => Heap.put_ne _ _ (by omega)
     have g2 : ∀ (o : Option AObj) k, k < n → (H.put n o) k = H k := fun o k hk => Heap.put_ne _ _ (by omega)
     have g3 : ∀ (o o' : Option AObj) k, k < n → k ≠ kt → ((H.put n o).put kt o') k = H k := fun o o' k hk h1 => (Heap.put_ne _ _ h1).trans (g2 _ _ hk)
     have g5 : ∀ (o : Option AObj), outAt (H.put n o) (n + 1) ko lo st.out := fun o => hto0.mono (g2 _ ko hko) (fun k _ h2 => g2 _ k h2) (by omega)
     rw [hG]
     try rw [c2]
     first
     | exact shown_stay hlo st (by omega) ((g1 _).trans hw) ((g2 _ kt hkt).trans htk) (g5 _) (fun k hk _ _ _ => g2 _ k hk)
     | exact shown_left hlo { st with count := 0 } (by omega) ((g1 _).trans hw) (g5 _) (fun k hk _ _ _ => g2 _ k hk)
     | (rw [← hxe2]; exact shown_app hlo st (0 + 1) x.e xs x hxe hm (hmx.low (by omega)) (by omega) ((hlow kw (by omega)).trans ((g3 _ _ kw hkw' h.a).trans hw)) (fun k hk h1 => (hlow k (by omega)).trans (g3 _ _ k hk h1)))
     | (rw [← hxe2]; exact shown_app hlo st (st.count + 1) x.e xs x hxe hm (hmx.low (by omega)) (by omega) ((hlow kw (by omega)).trans ((g3 _ _ kw hkw' h.a).trans hw)) (fun k hk h1 => (hlow k (by omega)).trans (g3 _ _ k hk h1)))
    ·skip
     have c3 : ¬ cnt1 st d < st.n := by rw [c2]; simpa using hb
     have hG : shownG w.s st d = { st with count := cnt1 st d } := by unfold shownG; rw [if_neg c1, if_neg c3]
     refine awp_skip ?_
     try simp only [go_sem, seval]
     have g1 : ∀ (o : Option AObj), (H.put n o) kw = H kw := fun o => Heap.put_ne _ _ (by omega)
     have g2 : ∀ (o : Option AObj) k, k < n → (H.put n o) k = H k := fun o k hk => Heap.put_ne _ _ (by omega)
     have g3 : ∀ (o o' : Option AObj) k, k < n → k ≠ kt → ((H.put n o).put kt o') k = H k := fun o o' k hk h1 => (Heap.put_ne _ _ h1).trans (g2 _ _ hk)
     have g5 : ∀ (o : Option AObj), outAt (H.put n o) (n + 1) ko lo st.out := fun o => hto0.mono (g2 _ ko hko) (fun k _ h2 => g2 _ k h2) (by omega)
     rw [hG]
     try rw [c2]
     first
     | exact shown_stay hlo st (by omega) ((g1 _).trans hw) ((g2 _ kt hkt).trans htk) (g5 _) (fun k hk _ _ _ => g2 _ k hk)
     | exact shown_left hlo { st with count := 0 } (by omega) ((g1 _).trans hw) (g5 _) (fun k hk _ _ _ => g2 _ k hk)
     | (rw [← hxe2]; exact shown_app hlo st (0 + 1) x.e xs x hxe hm (hmx.low (by omega)) (by omega) ((hlow kw (by omega)).trans ((g3 _ _ kw hkw' h.a).trans hw)) (fun k hk h1 => (hlow k (by omega)).trans (g3 _ _ k hk h1)))
     | (rw [← hxe2]; exact shown_app hlo st (st.count + 1) x.e xs x hxe hm (hmx.low (by omega)) (by omega) ((hlow kw (by omega)).trans ((g3 _ _ kw hkw' h.a).trans hw)) (fun k hk h1 => (hlow k (by omega)).trans (g3 _ _ k hk h1)))
theorem shown_tkOK (kw kt ko lo : Nat) (h : KSep kw kt ko lo) : TkOK (shownTk kw kt ko lo h) SSt.ok :=
  ⟨fun w st d H n ha hok h0 h1 hf => shown_group kw kt ko lo h w st d H n ha hok h0 h1 hf, fun w st H n ha hok => shown_older kw kt ko lo h w st H n ha, fun w st e b H n ha hok he => shown_mark kw kt ko lo h w st e b H n ha⟩
def sInv (i : Nat) (st : SSt) : Prop := 0 ≤ st.count ∧ st.count ≤ i ∧ st.out.length ≤ i
theorem sInv_g {i : Nat} (s : List Fml) {st : SSt} (d : Dec) (h : sInv i st) : sInv (i + 1) (shownG s st d) := by
  obtain ⟨h1, h2, h3⟩ := h
  have h5 : 0 ≤ cnt1 st d ∧ cnt1 st d ≤ i := by unfold cnt1; split <;> omega
  unfold shownG
  split
  · exact ⟨h1, by omega, by omega⟩
  · split
    · exact ⟨by show 0 ≤ cnt1 st d + 1; omega, by show cnt1 st d + 1 ≤ _; omega, by simp; omega⟩
    · exact ⟨h5.1, by show cnt1 st d ≤ _; omega, by show st.out.length ≤ _; omega⟩
theorem shown_inv (kw kt ko lo : Nat) (h : KSep kw kt ko lo) : TkInv (shownTk kw kt ko lo h) SSt.ok 400000000000 sInv where
  ok := fun i st hi ⟨h1, h2, h3⟩ => ⟨h1, by omega⟩
  up := fun i st ⟨h1, h2, h3⟩ => ⟨h1, by omega, by omega⟩
  g := fun i s st d h => sInv_g s d h
  o := fun i st ⟨h1, h2, h3⟩ => ⟨h1, by show st.count ≤ _; omega, by show st.out.length ≤ _; omega⟩
  m := fun i st e b ⟨h1, h2, h3⟩ => ⟨h1, by show st.count ≤ _; omega, by show st.out.length ≤ _; omega⟩
theorem shown_run (kw kt ko lo : Nat) (h : KSep kw kt ko lo) (s : List Fml) (clock t n : Int) (m : List Ent) :
    (runW (shownTk kw kt ko lo h) m (wlk0 s clock) (sst0 t n)).2 = shownOf s clock t n m := runW_ev _ m _ _
theorem sInv0 (t n : Int) : sInv 0 (sst0 t n) := by simp [sInv, sst0]
theorem c_retain_showing (s : List Fml) (clock t vn : Int) (H : Heap) (n : Nat) :
    ACalls Tryz.prog 42 [schAV s, .int .i64 clock, .int .i64 t, .int .i64 vn] H n fun res H' n' => ∃ (kw kt ko lo : Nat) (h : KSep kw kt ko lo), res = .val (.tup [.loc kw 0 0 0 [], .loc kt 0 0 0 []]) ∧ n ≤ kw ∧ n ≤ kt ∧ n ≤ ko ∧ n ≤ n' ∧ lo = n' ∧ Ahead (shownTk kw kt ko lo h) H' n' (wlk0 s clock) (sst0 t vn) ∧ ∀ k, k < n → H' k = H k := by
  refine acalls_of_awp Tryz.func42 rfl Tryz.ntmps42 (congrArg Array.toList Tryz.results42) (by simp) ?_
  simp only [go_sem]
  refine awp_rq zs [1, 2, 3, 4] ?_
  refine awp_rq zs [1, 4, 10] ?_
  refine awp_rq zs [10] ?_
  refine awp_wk_obj (n + 2) (els' := [walkAV (shownTk (n + 2) (n + 1) (n + 3) (n + 4) ⟨by omega, by omega, by omega, by omega, by omega, by omega⟩) (wlk0 s clock)]) ((Heap.put_ne _ _ (by omega)).trans (Heap.put_same _ _ _)) ⟨Wk.agg ⟨.refl _, .refl _, .refl _, .refl _, Wk.agg ⟨Wk.nilsl 1, .refl _, Wk.nilsl 1, .refl _, .refl _, .refl _, Wk.nilsl 1, trivial⟩, .refl _, .refl _, .refl _, .refl _, Wk.agg ⟨Wk.agg ⟨Wk.nilsl 1, .refl _, Wk.nilsl 1, .refl _, .refl _, .refl _, Wk.nilsl 1, trivial⟩, .refl _, trivial⟩, trivial⟩, trivial⟩ ?_
  refine awp_wk_obj (n + 1) (els' := [.agg [.int .i64 t, .int .i64 vn, .nilsl, .int .i64 0, entAV (sst0 t vn).last, .loc (n + 2) 0 0 0 []]]) ((Heap.put_ne _ _ (by omega)).trans (Heap.put_same _ _ _)) ⟨Wk.agg ⟨.refl _, .refl _, .refl _, .refl _, Wk.agg ⟨Wk.nilsl 1, .refl _, Wk.nilsl 1, .refl _, .refl _, .refl _, Wk.nilsl 1, trivial⟩, .refl _, trivial⟩, trivial⟩ ?_
  refine awp_adopt_obj (n + 1) 7 (els' := [shownAV (n + 2) (n + 3) (sst0 t vn)]) (Heap.put_same _ _ _) ⟨Adp.agg ⟨.refl _ _, .refl _ _, Adp.nilsl _, .refl _ _, .refl _ _, .refl _ _, trivial⟩, trivial⟩ ?_
  refine awp_reg zs [8, 9] fun K hK => ?_
  try simp only [go_sem, seval, shownAV]
  refine hK _ _ _ ?_; clear hK K
  refine awp_ret ?_
  try simp only [go_sem, seval]
  refine ⟨n + 2, n + 1, n + 3, n + 4, ⟨by omega, by omega, by omega, by omega, by omega, by omega⟩, rfl, by omega, by omega, by omega, by omega, rfl, ⟨by simp [shownTk], fun k hk => by rcases hk with rfl | rfl <;> omega, ?_, by omega, ?_, [], rfl, ?_, MineL.nil _ _ _⟩, fun k hk => ?_⟩
  · simp [Heap.put, shownTk, walkAV, tkAV, wlk0, schAV, entAV, bys]
  · simp [Heap.put, shownTk, shownAV, sst0, entAV, bys]
  · simp [Heap.put]
  · have h0 : k ≠ n := by omega
    have h1 : ∀ j, k ≠ n + j := fun j => by omega
    have h2 : ∀ i j, k ≠ n + i + j := fun i j => by omega
    simp [Heap.put, h0, h1, h2]
theorem u_retain_Read (s : List Fml) (clock t vn : Int) (l : List Ent) (hl : l.length ≤ 100000000) (H : Heap) (n : Nat) :
    ACalls Tryz.prog 20 [schAV s, .int .i64 clock, .int .i64 t, .int .i64 vn, entsAV l] H n (AnsK n H (readE s clock t vn l).1 (readE s clock t vn l).2) := by
  refine acalls_of_awp Tryz.func20 rfl Tryz.ntmps20 (congrArg Array.toList Tryz.results20) (by simp) ?_
  simp only [go_sem]
  refine awp_rq zs [1, 2, 3, 4, 5] ?_
  refine awp_reg zs [1, 2, 3, 4, 5, 12] fun K hK => ?_
  try simp only [go_sem, seval]
  repeat (first | (refine And.intro ?_ ?_; · first | exact ⟨rfl, by simp [AV.sz, AV.memOK]⟩) | refine peel ?_)
  refine callK_use Tryz.func41 rfl rfl rfl ((c_retain_prepare s clock [t] (by simp) vn l (by omega) _ _)) ?_
  try simp only [go_sem, seval]
  repeat (first | (refine And.intro ?_ ?_; · first | exact ⟨rfl, by simp [AV.sz, AV.memOK]⟩) | refine peel ?_)
  refine hK _ _ _ ?_; clear hK K
  refine awp_seq_k fun K1 hK1 => ?_
  refine awp_rq zs [1, 2, 3, 4, 5, 12, 26] ?_
  refine awp_cnd (fun hb => ?_) (fun hb => ?_)
  ·skip
   have hne : (prepE s clock [t] vn l).2 ≠ 0 := by simpa using hb
   have hq : readE s clock t vn l = ([], (prepE s clock [t] vn l).2) := by unfold readE; rw [if_pos hne]
   refine awp_rq zs [10, 11] ?_
   refine awp_ret ?_
   try simp only [go_sem, seval]
   rw [hq]
   first
   | exact ⟨_, rfl, AnsU.nil _ _ _, by omega, fun k hk => Heap.put_ne _ _ (by omega)⟩
   | (have hle3 := hL.le
      have hf9 := hh.f
      refine ⟨_, rfl, .inr ⟨ko, xs.length, xs, by rw [← hxe]; simp, hxe, hh2, by omega, by omega, hm3.low (by omega), fun hin => by have := (hm3.in' hin).1; omega⟩, by omega, fun k hk => ?_⟩
      rw [hL.rest k (by omega) (show k ≠ kw by omega) (fun h => by rcases h with h | h <;> omega), hlow k (by omega), Heap.put_ne _ _ (by omega)])
  ·skip
   have hne : (prepE s clock [t] vn l).2 = 0 := by simpa using hb
   have hq : readE s clock t vn l = ((shownOf s clock t vn (prepE s clock [t] vn l).1).out, 0) := by unfold readE; rw [if_neg (by simp [hne])]
   obtain ⟨hbz, _, _, hmem, hlen⟩ := prepE_zero hne
   generalize (prepE s clock [t] vn l).1 = m at *
   refine awp_skip ?_
   try simp only [go_sem, seval]
   refine hK1 _ _ _ ?_
   first | clear hK1 K1 | skip
   refine awp_reg zs [4, 13, 14] fun K hK => ?_
   try simp only [go_sem, seval]
   refine callK_useK (args' := [schAV s, .int .i64 clock, .int .i64 t, .int .i64 vn]) Tryz.func42 rfl rfl rfl (c_retain_showing s clock t vn _ (n + 1)) ?_ ?_
   rotate_left
   · intro p H' n' h; obtain ⟨kw, kt, ko, lo, hh, hres, _⟩ := h; cases hres
   rintro r H2 n2 ⟨kw, kt, ko, lo, hh, hres, hkw, hkt, hko, hn2, hlo2, hah, hlow⟩
   cases hres
   try simp only [go_sem, seval]
   refine hK _ _ _ ?_; clear hK K
   refine awp_reg zs [14] fun K hK => ?_
   try simp only [go_sem, seval]
   refine callK_useK (args' := [.loc kw 0 0 0 [], entsAV m]) Tryz.func43 rfl rfl rfl (c_retain_walk_run (shownTk kw kt ko lo hh) SSt.ok (shown_tkOK kw kt ko lo hh) 400000000000 sInv (shown_inv kw kt ko lo hh) s (ttl_of (boundsE_zero hbz).1) m (wlk0 s clock) (sst0 t vn) H2 n2 hah (by omega) (by omega) (sInv0 t vn) (wrk0 s clock) (fun e he => goodE_of (hmem e he).2)) ?_ ?_
   rotate_left
   · intro p H' n' h; cases h.1
   rintro r H3 n3 ⟨hr3, hL⟩
   cases hr3
   obtain ⟨hlo3, hh1, xs, hxe, hh2, hm3⟩ := hL.tk
   rw [shown_run] at hh1 hxe
   simp only [shownAV] at hh1
   refine hK _ _ _ ?_; clear hK K
   refine awp_reg zs [10, 11] fun K hK => ?_
   try simp only [go_sem, seval, hh1]
   refine hK _ _ _ ?_; clear hK K
   refine awp_ret ?_
   try simp only [go_sem, seval]
   rw [hq]
   first
   | exact ⟨_, rfl, AnsU.nil _ _ _, by omega, fun k hk => Heap.put_ne _ _ (by omega)⟩
   | (have hle3 := hL.le
      have hf9 := hh.f
      refine ⟨_, rfl, .inr ⟨ko, xs.length, xs, by rw [← hxe]; simp, hxe, hh2, by omega, by omega, hm3.low (by omega), fun hin => by have := (hm3.in' hin).1; omega⟩, by omega, fun k hk => ?_⟩
      rw [hL.rest k (by omega) (show k ≠ kw by omega) (fun h => by rcases h with h | h <;> omega), hlow k (by omega), Heap.put_ne _ _ (by omega)])
theorem c_retain_Read (s : List Fml) (clock t vn : Int) (l : List Ent) (hl : l.length ≤ 100000000) (H : Heap) (n : Nat) :
    Ret Tryz.prog 20 [schAV s, .int .i64 clock, .int .i64 t, .int .i64 vn, entsAV l] H n (.tup [entsAV (readE s clock t vn l).1, .int .i64 (readE s clock t vn l).2]) H n := AnsK.fin (u_retain_Read s clock t vn l hl H n)
theorem u_retain_Vis (s : List Fml) (clock : Int) (l : List Ent) (hl : l.length ≤ 100000000) (H : Heap) (n : Nat) :
    ACalls Tryz.prog 18 [schAV s, .int .i64 clock, entsAV l] H n (AnsK n H (visE s clock l).1 (visE s clock l).2) := by
  refine acalls_of_awp Tryz.func18 rfl Tryz.ntmps18 (congrArg Array.toList Tryz.results18) (by simp) ?_
  simp only [go_sem]
  refine awp_rq zs [1, 2, 3] ?_
  refine awp_reg zs [6, 7] fun K hK => ?_
  try simp only [go_sem, seval]
  refine callK_useK (args' := [schAV s, .int .i64 clock, .int .i64 1099511627776, .int .i64 16, entsAV l]) Tryz.func20 rfl rfl rfl (u_retain_Read s clock 1099511627776 16 l hl _ _) ?_ ?_
  rotate_left
  · intro p H' n' h; obtain ⟨a, ha, _⟩ := h; cases ha
  rintro r H2 n2 ⟨a, hr2, hans, hn2, hlow⟩
  cases hr2
  try simp only [go_sem, seval]
  refine hK _ _ _ ?_; clear hK K
  refine awp_ret ?_
  try simp only [go_sem, seval]
  try rw [hans.strip]
  exact ⟨a, rfl, hans.low (by omega), by omega, fun k hk => (hlow k (by omega)).trans (Heap.put_ne _ _ (by omega))⟩
theorem c_retain_Vis (s : List Fml) (clock : Int) (l : List Ent) (hl : l.length ≤ 100000000) (H : Heap) (n : Nat) :
    Ret Tryz.prog 18 [schAV s, .int .i64 clock, entsAV l] H n (.tup [entsAV (visE s clock l).1, .int .i64 (visE s clock l).2]) H n := AnsK.fin (u_retain_Vis s clock l hl H n)
end Go.Proofs.YtijhkfhflpmajaaGreat
namespace Go.Proofs.YtijhkfhflpmajaaGreat
open Go Go.Sx Go.Rt Go.Proofs
def topTk (kw kt : Nat) (h : kw ≠ kt) : Tk Tryz.prog where
  σ := Int
  kw := kw
  recv := .loc kt 0 0 0 []
  g := 47
  o := 48
  m := 49
  fg := ⟨_, Tryz.func47, rfl, rfl⟩
  fo := ⟨_, Tryz.func48, rfl, rfl⟩
  fm := ⟨_, Tryz.func49, rfl, rfl⟩
  keys := fun k => k = kt
  kwn := h
  holds := fun s H n => kt < n ∧ H kt = some (.arr 0 1 [.agg [.int .i64 s]])
  ext := fun s H H' n n' hn hk ⟨a, b⟩ => ⟨by omega, (hk kt a (Ne.symm h)).trans b⟩
  grp := fun _ => topG
  old := id
  mrk := fun st _ _ => st
section
variable {kw kt : Nat} {h : kw ≠ kt} {w : Wlk} {H H1 : Heap} {n n1 : Nat}
theorem top_left (hkt : kt < n) (st' : Int) (hn : n ≤ n1) (hw : H1 kw = some (.arr 0 25 [walkAV (topTk kw kt h) w]))
    (hrest : ∀ k, k < n → k ≠ kw → k ≠ kt → H1 k = H k) : LeftU (topTk kw kt h) H n w st' (.val (.tup [])) (H1.put kt (some (.arr 0 1 [.agg [.int .i64 st']]))) n1 :=
  ⟨rfl, hn, (Heap.put_ne _ _ h).trans hw, ⟨by omega, Heap.put_same _ _ _⟩, fun k hk h1 h2 => (Heap.put_ne _ _ h2).trans (hrest k hk h1 h2)⟩
theorem top_stay (hkt : kt < n) (st : Int) (hn : n ≤ n1) (hw : H1 kw = some (.arr 0 25 [walkAV (topTk kw kt h) w])) (htk : H1 kt = some (.arr 0 1 [.agg [.int .i64 st]]))
    (hrest : ∀ k, k < n → k ≠ kw → k ≠ kt → H1 k = H k) : LeftU (topTk kw kt h) H n w st (.val (.tup [])) H1 n1 :=
  ⟨rfl, hn, hw, ⟨by omega, htk⟩, fun k hk h1 h2 => hrest k hk h1 h2⟩
end
theorem top_older (kw kt : Nat) (h : kw ≠ kt) (w : Wlk) (st : Int) (H : Heap) (n : Nat) (ha : Ahead (topTk kw kt h) H n w st) :
    ACalls Tryz.prog 48 [.loc kt 0 0 0 []] H n (LeftU (topTk kw kt h) H n w st) := by
  obtain ⟨hkw, hkeys, hw, hkt0, htk⟩ := ha
  refine acalls_of_awp Tryz.func48 rfl Tryz.ntmps48 (congrArg Array.toList Tryz.results48) (by simp) ?_
  simp only [go_sem]
  refine awp_skip ?_
  try simp only [go_sem, seval]
  exact top_stay hkt0 st (Nat.le_refl _) hw htk (fun k _ _ _ => rfl)
theorem top_mark (kw kt : Nat) (h : kw ≠ kt) (w : Wlk) (st : Int) (e : Ent) (b : Bool) (H : Heap) (n : Nat) (ha : Ahead (topTk kw kt h) H n w st) :
    ACalls Tryz.prog 49 [.loc kt 0 0 0 [], entAV e, .bool b] H n (LeftU (topTk kw kt h) H n w st) := by
  obtain ⟨hkw, hkeys, hw, hkt0, htk⟩ := ha
  have hkt : kt < n := hkeys kt rfl
  have hkw' : kw < n := hkw
  refine acalls_of_awp Tryz.func49 rfl Tryz.ntmps49 (congrArg Array.toList Tryz.results49) (by simp) ?_
  simp only [go_sem]
  refine awp_reg1 zs [] fun K hK => ?_
  try simp only [go_sem, seval]
  refine hK _ _ _ ?_; clear hK K
  try simp only [go_sem, seval]
  exact top_stay hkt0 st (by omega) ((Heap.put_ne _ _ (by omega)).trans hw) ((Heap.put_ne _ _ (by omega)).trans htk) (fun k hk _ _ => Heap.put_ne _ _ (by omega))
theorem top_group (kw kt : Nat) (h : kw ≠ kt) (w : Wlk) (st : Int) (d : Dec) (H : Heap) (n : Nat) (ha : Ahead (topTk kw kt h) H n w st) :
    ACalls Tryz.prog 47 [.loc kt 0 0 0 [], decAV d] H n (LeftU (topTk kw kt h) H n w (topG st d)) := by
  obtain ⟨hkw, hkeys, hw, hkt0, htk⟩ := ha
  have hkt : kt < n := hkeys kt rfl
  have hkw' : kw < n := hkw
  have htk : H kt = some (.arr 0 1 [.agg [.int .i64 st]]) := htk
  have q1 : (kt = n) = False := by simp; omega
  have q3 : (n = kt) = False := by simp; omega
  refine acalls_of_awp Tryz.func47 rfl Tryz.ntmps47 (congrArg Array.toList Tryz.results47) (by simp) ?_
  simp only [go_sem]
  refine awp_reg zs [0, 3] fun K hK => ?_
  try simp only [go_sem, seval]
  refine hK _ _ _ ?_; clear hK K
  refine awp_reg zs [0, 3, 6] fun K hK => ?_
  try simp only [go_sem, seval]
  refine hK _ _ _ ?_; clear hK K
  refine awp_cnd (fun hb => ?_) (fun hb => ?_)
  ·skip
   have hG : topG st d = max st d.e.ts := by unfold topG; rw [if_pos (by simpa using hb)]
   refine awp_drw1 rfl zs [] [.m, .m, .q, .q, .q, .q, .q, .q, .q, .q, .q, .w []] (by kernel_rfl) (fun _ _ _ _ _ h => h) fun K hK => ?_
   try simp only [go_sem, seval, htk, q1]
   refine hK _ _ _ ?_; clear hK K
   try simp only [go_sem, seval]
   rw [hG]
   first | exact top_stay hkt0 st (by omega) ((Heap.put_ne _ _ (by omega)).trans hw) ((Heap.put_ne _ _ (by omega)).trans htk) (fun k hk _ _ => Heap.put_ne _ _ (by omega)) | exact top_left hkt0 _ (by omega) ((Heap.put_ne _ _ (by omega)).trans hw) (fun k hk _ _ => Heap.put_ne _ _ (by omega)) | skip
  ·skip
   have hG : topG st d = st := by unfold topG; rw [if_neg (by simpa using hb)]
   refine awp_skip ?_
   try simp only [go_sem, seval]
   rw [hG]
   first | exact top_stay hkt0 st (by omega) ((Heap.put_ne _ _ (by omega)).trans hw) ((Heap.put_ne _ _ (by omega)).trans htk) (fun k hk _ _ => Heap.put_ne _ _ (by omega)) | exact top_left hkt0 _ (by omega) ((Heap.put_ne _ _ (by omega)).trans hw) (fun k hk _ _ => Heap.put_ne _ _ (by omega)) | skip
theorem top_tkOK (kw kt : Nat) (h : kw ≠ kt) : TkOK (topTk kw kt h) (fun _ => True) :=
  ⟨fun w st d H n ha hok h0 h1 hf => top_group kw kt h w st d H n ha, fun w st H n ha hok => top_older kw kt h w st H n ha, fun w st e b H n ha hok he => top_mark kw kt h w st e b H n ha⟩
theorem top_inv (kw kt : Nat) (h : kw ≠ kt) : TkInv (topTk kw kt h) (fun _ => True) 400000000000 (fun _ _ => True) := ⟨fun _ _ _ _ => trivial, fun _ _ _ => trivial, fun _ _ _ _ _ => trivial, fun _ _ _ => trivial, fun _ _ _ _ _ => trivial⟩
theorem top_run (kw kt : Nat) (h : kw ≠ kt) (s : List Fml) (clock : Int) (m : List Ent) :
    (runW (topTk kw kt h) m (wlk0 s clock) (0 : Int)).2 = topOf s clock m := runW_ev _ m _ _
theorem c_retain_Top (s : List Fml) (clock : Int) (l : List Ent) (hl : l.length ≤ 100000000) (H : Heap) (n : Nat) :
    Ret Tryz.prog 24 [schAV s, .int .i64 clock, entsAV l] H n (.tup [.int .i64 (topE s clock l).1, .int .i64 (topE s clock l).2]) H n := by
  refine Ret.fin ?_
  refine acalls_of_awp Tryz.func24 rfl Tryz.ntmps24 (congrArg Array.toList Tryz.results24) (by simp) ?_
  simp only [go_sem]
  refine awp_rq zs [1, 2, 3] ?_
  refine awp_reg zs [1, 2, 3, 8] fun K hK => ?_
  try simp only [go_sem, seval]
  refine callK_use Tryz.func41 rfl rfl rfl ((Ret.wk (c_retain_prepare s clock [] (by simp) 1 l (by omega) _ _) ⟨.refl _, .refl _, Wk.nilsl 1, .refl _, .refl _, trivial⟩)) ?_
  try simp only [go_sem, seval]
  refine hK _ _ _ ?_; clear hK K
  refine awp_seq_k fun K1 hK1 => ?_
  refine awp_rq zs [1, 2, 3, 8, 19] ?_
  refine awp_cnd (fun hb => ?_) (fun hb => ?_)
  ·skip
   have hne : (prepE s clock [] 1 l).2 ≠ 0 := by simpa using hb
   have hq : topE s clock l = (0, (prepE s clock [] 1 l).2) := by unfold topE; rw [if_pos hne]
   refine awp_rq zs [6, 7] ?_
   refine awp_ret ?_
   try simp only [go_sem, seval]
   rw [hq]
   refine ⟨_, rfl, ?_, .kl ⟨trivial, trivial, trivial⟩⟩
   · intro k hk
     have h1 : k ≠ n := by omega
     have h2 : k ≠ n + 1 := by omega
     have h3 : k ≠ n + 2 := by omega
     first | (simp only [h1, if_false]; done) | (rw [hL.rest k (by omega) h3 h2, Heap.put_ne _ _ h3, Heap.put_ne _ _ h2, Heap.put_ne _ _ h1])
  ·skip
   have hne : (prepE s clock [] 1 l).2 = 0 := by simpa using hb
   have hq : topE s clock l = (topOf s clock (prepE s clock [] 1 l).1, 0) := by unfold topE; rw [if_neg (by simp [hne])]
   obtain ⟨hbz, _, _, hmem, hlen⟩ := prepE_zero hne
   generalize (prepE s clock [] 1 l).1 = m at *
   refine awp_skip ?_
   try simp only [go_sem, seval]
   refine hK1 _ _ _ ?_
   first | clear hK1 K1 | skip
   refine awp_rq zs [1, 2, 3, 9] ?_
   refine awp_rq zs [2, 9, 10] ?_
   refine awp_wk_obj (n + 2) (els' := [walkAV (topTk (n + 2) (n + 1) (by omega)) (wlk0 s clock)]) (Heap.put_same _ _ _) ⟨Wk.agg ⟨.refl _, .refl _, .refl _, .refl _, Wk.agg ⟨Wk.nilsl 1, .refl _, Wk.nilsl 1, .refl _, .refl _, .refl _, Wk.nilsl 1, trivial⟩, .refl _, .refl _, .refl _, .refl _, Wk.agg ⟨Wk.agg ⟨Wk.nilsl 1, .refl _, Wk.nilsl 1, .refl _, .refl _, .refl _, Wk.nilsl 1, trivial⟩, .refl _, trivial⟩, trivial⟩, trivial⟩ ?_
   have hah : ∀ o, Ahead (topTk (n + 2) (n + 1) (by omega)) ((((H.put n o).put (n + 1) (some (.arr 0 1 [.agg [.int .i64 0]]))).put (n + 2) (some (.arr 0 25 [walkAV (topTk (n + 2) (n + 1) (by omega)) (wlk0 s clock)])))) (n + 3) (wlk0 s clock) (0 : Int) := fun o => ⟨by show n + 2 < n + 3; omega, fun k hk => by have : k = n + 1 := hk; omega, Heap.put_same _ _ _, ⟨by omega, (Heap.put_ne _ _ (by omega)).trans (Heap.put_same _ _ _)⟩⟩
   refine awp_reg zs [9] fun K hK => ?_
   try simp only [go_sem, seval]
   refine callK_useK (args' := [.loc (n + 2) 0 0 0 [], entsAV m]) Tryz.func43 rfl rfl rfl (c_retain_walk_run (topTk (n + 2) (n + 1) (by omega)) (fun _ => True) (top_tkOK _ _ _) 400000000000 (fun _ _ => True) (top_inv _ _ _) s (ttl_of (boundsE_zero hbz).1) m (wlk0 s clock) (0 : Int) _ (n + 3) (hah _) (by omega) (by omega) trivial (wrk0 s clock) (fun e he => goodE_of (hmem e he).2)) ?_ ?_
   rotate_left
   · intro p H' n' h; cases h.1
   rintro r H3 n3 ⟨hr3, hL⟩
   cases hr3
   have hh1 := hL.tk
   rw [top_run] at hh1
   have hh1 : H3 (n + 1) = some (.arr 0 1 [.agg [.int .i64 (topOf s clock m)]]) := hh1.2
   refine hK _ _ _ ?_; clear hK K
   refine awp_reg zs [6, 7] fun K hK => ?_
   try simp only [go_sem, seval, hh1]
   refine hK _ _ _ ?_; clear hK K
   refine awp_ret ?_
   try simp only [go_sem, seval]
   rw [hq]
   refine ⟨_, rfl, ?_, .kl ⟨trivial, trivial, trivial⟩⟩
   · intro k hk
     have h1 : k ≠ n := by omega
     have h2 : k ≠ n + 1 := by omega
     have h3 : k ≠ n + 2 := by omega
     first | (simp only [h1, if_false]; done) | (rw [hL.rest k (by omega) h3 h2, Heap.put_ne _ _ h3, Heap.put_ne _ _ h2, Heap.put_ne _ _ h1])
end Go.Proofs.YtijhkfhflpmajaaGreat
namespace Go.Proofs.YtijhkfhflpmajaaGreat
open Go Go.Sx Go.Rt Go.Proofs
def smallE (e : Ent) : Prop := e.row.length ≤ 256 ∧ e.qual.length ≤ 256 ∧ e.value.length ≤ 4096
theorem small_of {e : Ent} (h : checkE e = 0) : smallE e := by
  unfold checkE at h
  repeat' split at h
  all_goals first | (exact absurd h (by decide)) | skip
  rename_i h1 h2 h3 h4 h5 h6 h7
  have h1 := bout_false (Bool.eq_false_iff.2 h1)
  refine ⟨by omega, ?_, ?_⟩
  · have : ¬ 256 < (e.qual.length : Int) := by
      intro h; apply h3; simp [badQ, h]
    omega
  · have : ¬ 4096 < (e.value.length : Int) := by
      intro h; apply h7; simp [badV, h]
    omega
theorem small_fits {e : Ent} (h : smallE e) : e.fits := by obtain ⟨h1, h2, h3⟩ := h; exact ⟨by omega, by omega, by omega⟩
def evS : Ev → Prop
  | .g d => smallE d.e
  | .o => True
  | .m e _ => smallE e
theorem decOf_e (w : Wlk) : (decOf w).e = w.ge := by unfold decOf; cases (!outD (dec0 w) && !w.lone) <;> rfl
theorem closeV_S {w : Wlk} (h : w.opn = true → smallE w.ge) : ∀ v ∈ closeV w, evS v := by
  unfold closeV
  split
  · intro v hv; cases hv
  · rename_i ho
    intro v hv
    rw [List.mem_singleton.1 hv]
    show smallE (decOf w).e
    rw [decOf_e]; exact h (by simpa using ho)
theorem nextW_S {w : Wlk} {e : Ent} (h : w.opn = true → smallE w.ge) (he : smallE e) : (nextW w e).opn = true → smallE (nextW w e).ge := by
  have h1 : (nx1 w e).opn = true → smallE (nx1 w e).ge := by
    unfold nx1; cases endsE w e
    · exact h
    · unfold closeW; simp only [cond_true]; split
      · exact h
      · intro ho; simp at ho
  have h2 : (nx2 (nx1 w e) e).opn = true → smallE (nx2 (nx1 w e) e).ge := by unfold nx2; cases newFam (nx1 w e) e <;> exact h1
  have h3 : (nx3 (nx2 (nx1 w e) e) e).opn = true → smallE (nx3 (nx2 (nx1 w e) e) e).ge := by unfold nx3; cases newCol (nx2 (nx1 w e) e) e <;> exact h2
  unfold nextW nx5
  split
  · exact h3
  · split
    · exact h3
    · unfold verW; split
      · intro _; exact he
      · exact h3
theorem evN_S {w : Wlk} {e : Ent} (h : w.opn = true → smallE w.ge) (he : smallE e) : ∀ v ∈ evN w e, evS v := by
  unfold evN ev1 ev5
  intro v hv
  rcases List.mem_append.1 hv with hv | hv
  · cases hb : endsE w e with
    | true => rw [hb] at hv; exact closeV_S h v hv
    | false => rw [hb] at hv; cases hv
  · split at hv
    · rw [List.mem_singleton.1 hv]; exact he
    · split at hv
      · rw [List.mem_singleton.1 hv]; exact he
      · split at hv
        · cases hv
        · rw [List.mem_singleton.1 hv]; trivial
theorem kept_S (f : List Fml) : ∀ (l : List Ev) (st : KSt), (∀ v ∈ l, evS v) → (∀ e ∈ st.out, smallE e) → ∀ e ∈ (l.foldl (evT (keptG f) keptO keptM) st).out, smallE e := by
  intro l
  induction l with
  | nil => intro st _ h; exact h
  | cons v l ih =>
    intro st hl h
    rw [List.foldl_cons]
    refine ih _ (fun x hx => hl x (by simp [hx])) ?_
    have hv := hl v (by simp)
    have hs : ∀ x, smallE x → ∀ e ∈ st.out ++ [x], smallE e := fun x hx e he => by
      rcases List.mem_append.1 he with he | he
      · exact h e he
      · rw [List.mem_singleton.1 he]; exact hx
    cases v with
    | g d =>
      show ∀ e ∈ (keptG f st d).out, smallE e
      have hd : smallE d.e := hv
      have hd2 : smallE { d.e with kind := 2, value := [] } := ⟨hd.1, hd.2.1, Nat.zero_le _⟩
      unfold keptG; repeat' split
      all_goals first | exact h | exact hs _ hd | exact hs _ hd2
    | o => exact h
    | m e b =>
      show ∀ x ∈ (keptM st e b).out, smallE x
      unfold keptM; split
      · exact h
      · exact hs _ hv
theorem shown_S (f : List Fml) : ∀ (l : List Ev) (st : SSt), (∀ v ∈ l, evS v) → (∀ e ∈ st.out, smallE e) → ∀ e ∈ (l.foldl (evT (shownG f) id fun st _ _ => st) st).out, smallE e := by
  intro l
  induction l with
  | nil => intro st _ h; exact h
  | cons v l ih =>
    intro st hl h
    rw [List.foldl_cons]
    refine ih _ (fun x hx => hl x (by simp [hx])) ?_
    have hv := hl v (by simp)
    cases v with
    | g d =>
      show ∀ e ∈ (shownG f st d).out, smallE e
      unfold shownG; repeat' split
      all_goals first | exact h | (intro e he; rcases List.mem_append.1 he with he | he; exact h e he; rw [List.mem_singleton.1 he]; exact hv)
    | o => exact h
    | m e b => exact h
end Go.Proofs.YtijhkfhflpmajaaGreat