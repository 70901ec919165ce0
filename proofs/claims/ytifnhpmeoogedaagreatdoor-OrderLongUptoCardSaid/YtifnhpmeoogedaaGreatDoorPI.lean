/- Own layer: walks through Encode and Same of the order. Of the program; no condition. -/
import Derived.Test.YtifnhpmeoogedaaGreatDoorPH
import Derived.Test.YtifnhpmeoogedaaGreatDoorPF
set_option linter.unusedSimpArgs false
set_option linter.unusedVariables false
namespace Go.Proofs.YtifnhpmeoogedaaGreatDoor
open Go Go.Sx Go.Rt Go.Proofs
theorem c_order_Same_S1 (a b : CondE) (H : Heap) (n : Nat) : Ret Tryz.prog 82 [condAV a, condAV b] H n (.bool (decide (a = b))) H n := by
  refine Ret.fin ?_
  refine acalls_of_awp Tryz.func82 rfl Tryz.ntmps82 (congrArg Array.toList Tryz.results82) (by simp) ?_
  simp only [go_sem]
  refine awp_reg zs [2, 3] fun K hK => ?_
  try simp only [go_sem, seval, condAV]
  refine hK _ _ _ ?_; clear hK K
  refine awp_reg zs [4] fun K hK => ?_
  try simp only [go_sem, seval]
  repeat refine peel ?_
  refine callG_use Tryz.func77 rfl rfl rfl (fun _ => (c_bytes_Equal a.qual b.qual _ _)) ?_
  try simp only [go_sem, seval]
  repeat refine peel ?_
  refine callG_use Tryz.func77 rfl rfl rfl (fun _ => (c_bytes_Equal a.value b.value _ _)) ?_
  try simp only [go_sem, seval]
  repeat refine peel ?_
  refine hK _ _ _ ?_; clear hK K
  refine awp_ret ?_
  try simp only [go_sem, seval]
  refine ⟨_, rfl, ?_, Frz.eq ?_ trivial⟩
  · intro k hk; have h0 : k ≠ n := by omega
    have h1 : ∀ j, k ≠ n + j := fun j => by omega
    simp [Heap.put, h0, h1]
  · congr 1
    cases a; cases b
    rw [Bool.eq_iff_iff]
    simp only [CondE.mk.injEq, decide_eq_true_eq, Bool.cond_false_right, Bool.and_eq_true, beq_iff_eq, and_assoc]
theorem c_order_Same_S2 (a b : OpE) (H : Heap) (n : Nat) : Ret Tryz.prog 84 [opAV a, opAV b] H n (.bool (decide (a = b))) H n := by
  refine Ret.fin ?_
  refine acalls_of_awp Tryz.func84 rfl Tryz.ntmps84 (congrArg Array.toList Tryz.results84) (by simp) ?_
  simp only [go_sem]
  refine awp_reg zs [2, 3] fun K hK => ?_
  try simp only [go_sem, seval, opAV]
  refine hK _ _ _ ?_; clear hK K
  refine awp_reg zs [4] fun K hK => ?_
  try simp only [go_sem, seval]
  repeat refine peel ?_
  refine callG_use Tryz.func77 rfl rfl rfl (fun _ => (c_bytes_Equal a.qual b.qual _ _)) ?_
  try simp only [go_sem, seval]
  repeat refine peel ?_
  refine callG_use Tryz.func77 rfl rfl rfl (fun _ => (c_bytes_Equal a.value b.value _ _)) ?_
  try simp only [go_sem, seval]
  repeat refine peel ?_
  refine hK _ _ _ ?_; clear hK K
  refine awp_ret ?_
  try simp only [go_sem, seval]
  refine ⟨_, rfl, ?_, Frz.eq ?_ trivial⟩
  · intro k hk; have h0 : k ≠ n := by omega
    have h1 : ∀ j, k ≠ n + j := fun j => by omega
    simp [Heap.put, h0, h1]
  · congr 1
    cases a; cases b
    rw [Bool.eq_iff_iff]
    simp only [OpE.mk.injEq, decide_eq_true_eq, Bool.cond_false_right, Bool.and_eq_true, beq_iff_eq, and_assoc]
theorem c_slices_EqualFunc_Cond (a b : List CondE) (ha : a.length ≤ 1048576) (H : Heap) (n : Nat) : Ret Tryz.prog 81 [.sl 4 (a.map condAV), .sl 4 (b.map condAV), .fn (.func 82) [] []] H n (.bool (decide (a = b))) H n := by
  have hsz : ∀ x, (condAV x).sz = 4 := fun x => rfl
  have hag : ∀ x, (condAV x).isAgg = true := fun x => rfl
  have hmo : ∀ x, (condAV x).memOK = true := fun x => rfl
  refine Ret.fin ?_
  refine acalls_of_awp Tryz.func81 rfl Tryz.ntmps81 (congrArg Array.toList Tryz.results81) (by simp) ?_
  simp only [go_sem]
  refine awp_reg zs [0, 1, 2] fun K hK => ?_
  try simp only [go_sem, seval]
  refine hK _ _ _ ?_; clear hK K
  refine awp_seq_k fun K1 hK1 => ?_
  refine awp_reg zs [0, 1, 2, 14] fun K hK => ?_
  try simp only [go_sem, seval, List.length_map]
  refine hK _ _ _ ?_; clear hK K
  refine awp_cnd (fun hb => ?_) (fun hb => ?_)
  ·skip
   have hne : ¬ a = b := fun e => by rw [e] at hb; simp at hb
   refine awp_reg zs [6] fun K hK => ?_
   try simp only [go_sem, seval]
   refine hK _ _ _ ?_; clear hK K
   refine awp_ret ?_
   try simp only [go_sem, seval]
   first | (refine ⟨_, rfl, Frz.eq ?_ trivial⟩; first | (simp [heq]; done) | (simp [hne]; done)) | exact ⟨_, rfl, fun k hk => by (repeat rw [if_neg (by omega)]); first | rfl | exact hlow k hk, Frz.eq (by first | simp [heq] | simp [hne]) trivial⟩
  ·skip
   have hl : a.length = b.length := by simp at hb; omega
   refine awp_skip ?_
   try simp only [go_sem, seval]
   refine hK1 _ _ _ ?_
   first | clear hK1 K1 | skip
   refine awp_seq_k fun K2 hK2 => ?_
   refine awp_reg zs [1, 2, 15, 16, 17] fun K hK => ?_
   try simp only [go_sem, seval, List.length_map]
   refine hK _ _ _ ?_; clear hK K
   refine awp_block ?_
   refine awp_loop (fun T' H' n' => ∃ i : Nat, i ≤ a.length ∧ T' = tl [(1, .sl 4 (b.map condAV)), (2, .fn (.func 82) [] []), (15, .sl 4 (a.map condAV)), (16, .int .i64 a.length), (17, .int .i64 i)] ∧ (∀ k, k < n → H' k = H k) ∧ n ≤ n' ∧ (a.drop i = b.drop i ↔ a = b)) (fun T' _ _ => a.length - iv (T' 17)) ?_ ?_
   ·skip
    exact ⟨0, Nat.zero_le _, rfl, fun _ _ => rfl, Nat.le_refl _, by simp⟩
   intro T1 H1 n1
   rintro ⟨i, hi, rfl, hlow, hnn, hix⟩
   refine awp_reg zs [1, 2, 15, 16, 17, 18] fun K hK => ?_
   try simp only [go_sem, seval]
   refine hK _ _ _ ?_; clear hK K
   refine awp_seq_k fun K3 hK3 => ?_
   refine awp_cnd (fun hb => ?_) (fun hb => ?_)
   ·skip
    have hlt : i < a.length := by simpa using hb
    have hlt2 : i < b.length := by omega
    rw [drop_cons a i hlt, drop_cons b i hlt2, List.cons.injEq] at hix
    have hn1 : nth (a.map condAV) i = condAV (a.getD i default) := nth_map condAV a i hlt
    have hn2 : nth (b.map condAV) i = condAV (b.getD i default) := nth_map condAV b i hlt2
    refine awp_skip ?_
    try simp only [go_sem, seval]
    refine hK3 _ _ _ ?_
    first | clear hK3 K3 | skip
    refine awp_seq_k fun K4 hK4 => ?_
    refine awp_block ?_
    refine awp_reg zs [1, 2, 7, 8, 15, 16, 17] fun K hK => ?_
    try simp only [go_sem, seval, List.length_map, Int.toNat_natCast, hn1, hsz, hag, hmo]
    repeat refine peel ?_
    refine hK _ _ _ ?_; clear hK K
    refine awp_reg zs [1, 2, 8, 9, 15, 16, 17] fun K hK => ?_
    try simp only [go_sem, seval, List.length_map, Int.toNat_natCast, hn2, hsz, hag, hmo]
    repeat refine peel ?_
    refine hK _ _ _ ?_; clear hK K
    refine awp_reg zs [1, 2, 15, 16, 17, 30] fun K hK => ?_
    try simp only [go_sem, seval, hsz, hag]
    refine callK_use Tryz.func82 rfl rfl rfl (c_order_Same_S1 _ _ _ _) ?_
    try simp only [go_sem, seval]
    refine hK _ _ _ ?_; clear hK K
    refine awp_cnd (fun hb => ?_) (fun hb => ?_)
    ·skip
     have hne : ¬ a = b := fun e => by rw [← hix] at e; have := e.1; simp_all
     refine awp_reg zs [6] fun K hK => ?_
     try simp only [go_sem, seval]
     refine hK _ _ _ ?_; clear hK K
     refine awp_ret ?_
     try simp only [go_sem, seval]
     first | (refine ⟨_, rfl, Frz.eq ?_ trivial⟩; first | (simp [heq]; done) | (simp [hne]; done)) | exact ⟨_, rfl, fun k hk => by (repeat rw [if_neg (by omega)]); first | rfl | exact hlow k hk, Frz.eq (by first | simp [heq] | simp [hne]) trivial⟩
    ·skip
     have hx : a.getD i default = b.getD i default := by simp at hb; simpa using hb
     have hnext : (a.drop (i + 1) = b.drop (i + 1)) ↔ a = b := by rw [← hix]; simp only [hx, true_and]
     refine awp_skip ?_
     try simp only [go_sem, seval]
     refine hK4 _ _ _ ?_
     first | clear hK4 K4 | skip
     refine awp_reg1 zs [1, 2, 15, 16, 17] fun K hK => ?_
     try simp only [go_sem, seval]
     refine hK _ _ _ ?_; clear hK K
     try simp only [go_sem, seval]
     refine ⟨⟨i + 1, by omega, by rw [w1 (by omega)], fun k hk => ?_, by omega, hnext⟩, by rw [w1 (by omega)]; simp; omega⟩
     (repeat rw [if_neg (by omega)])
     exact hlow k hk
   ·skip
    have hge : i = a.length := by simp at hb; omega
    have heq : a = b := by rw [← hix, hge, List.drop_length, hl, List.drop_length]
    refine awp_exit ?_
    try simp only [go_sem, seval]
    refine hK2 _ _ _ ?_
    first | clear hK2 K2 | skip
    refine awp_reg zs [6] fun K hK => ?_
    try simp only [go_sem, seval]
    refine hK _ _ _ ?_; clear hK K
    refine awp_ret ?_
    try simp only [go_sem, seval]
    first | (refine ⟨_, rfl, Frz.eq ?_ trivial⟩; first | (simp [heq]; done) | (simp [hne]; done)) | exact ⟨_, rfl, fun k hk => by (repeat rw [if_neg (by omega)]); first | rfl | exact hlow k hk, Frz.eq (by first | simp [heq] | simp [hne]) trivial⟩
theorem c_slices_EqualFunc_Op (a b : List OpE) (ha : a.length ≤ 1048576) (H : Heap) (n : Nat) : Ret Tryz.prog 83 [.sl 6 (a.map opAV), .sl 6 (b.map opAV), .fn (.func 84) [] []] H n (.bool (decide (a = b))) H n := by
  have hsz : ∀ x, (opAV x).sz = 6 := fun x => rfl
  have hag : ∀ x, (opAV x).isAgg = true := fun x => rfl
  have hmo : ∀ x, (opAV x).memOK = true := fun x => rfl
  refine Ret.fin ?_
  refine acalls_of_awp Tryz.func83 rfl Tryz.ntmps83 (congrArg Array.toList Tryz.results83) (by simp) ?_
  simp only [go_sem]
  refine awp_reg zs [0, 1, 2] fun K hK => ?_
  try simp only [go_sem, seval]
  refine hK _ _ _ ?_; clear hK K
  refine awp_seq_k fun K1 hK1 => ?_
  refine awp_reg zs [0, 1, 2, 14] fun K hK => ?_
  try simp only [go_sem, seval, List.length_map]
  refine hK _ _ _ ?_; clear hK K
  refine awp_cnd (fun hb => ?_) (fun hb => ?_)
  ·skip
   have hne : ¬ a = b := fun e => by rw [e] at hb; simp at hb
   refine awp_reg zs [6] fun K hK => ?_
   try simp only [go_sem, seval]
   refine hK _ _ _ ?_; clear hK K
   refine awp_ret ?_
   try simp only [go_sem, seval]
   first | (refine ⟨_, rfl, Frz.eq ?_ trivial⟩; first | (simp [heq]; done) | (simp [hne]; done)) | exact ⟨_, rfl, fun k hk => by (repeat rw [if_neg (by omega)]); first | rfl | exact hlow k hk, Frz.eq (by first | simp [heq] | simp [hne]) trivial⟩
  ·skip
   have hl : a.length = b.length := by simp at hb; omega
   refine awp_skip ?_
   try simp only [go_sem, seval]
   refine hK1 _ _ _ ?_
   first | clear hK1 K1 | skip
   refine awp_seq_k fun K2 hK2 => ?_
   refine awp_reg zs [1, 2, 15, 16, 17] fun K hK => ?_
   try simp only [go_sem, seval, List.length_map]
   refine hK _ _ _ ?_; clear hK K
   refine awp_block ?_
   refine awp_loop (fun T' H' n' => ∃ i : Nat, i ≤ a.length ∧ T' = tl [(1, .sl 6 (b.map opAV)), (2, .fn (.func 84) [] []), (15, .sl 6 (a.map opAV)), (16, .int .i64 a.length), (17, .int .i64 i)] ∧ (∀ k, k < n → H' k = H k) ∧ n ≤ n' ∧ (a.drop i = b.drop i ↔ a = b)) (fun T' _ _ => a.length - iv (T' 17)) ?_ ?_
   ·skip
    exact ⟨0, Nat.zero_le _, rfl, fun _ _ => rfl, Nat.le_refl _, by simp⟩
   intro T1 H1 n1
   rintro ⟨i, hi, rfl, hlow, hnn, hix⟩
   refine awp_reg zs [1, 2, 15, 16, 17, 18] fun K hK => ?_
   try simp only [go_sem, seval]
   refine hK _ _ _ ?_; clear hK K
   refine awp_seq_k fun K3 hK3 => ?_
   refine awp_cnd (fun hb => ?_) (fun hb => ?_)
   ·skip
    have hlt : i < a.length := by simpa using hb
    have hlt2 : i < b.length := by omega
    rw [drop_cons a i hlt, drop_cons b i hlt2, List.cons.injEq] at hix
    have hn1 : nth (a.map opAV) i = opAV (a.getD i default) := nth_map opAV a i hlt
    have hn2 : nth (b.map opAV) i = opAV (b.getD i default) := nth_map opAV b i hlt2
    refine awp_skip ?_
    try simp only [go_sem, seval]
    refine hK3 _ _ _ ?_
    first | clear hK3 K3 | skip
    refine awp_seq_k fun K4 hK4 => ?_
    refine awp_block ?_
    refine awp_reg zs [1, 2, 7, 8, 15, 16, 17] fun K hK => ?_
    try simp only [go_sem, seval, List.length_map, Int.toNat_natCast, hn1, hsz, hag, hmo]
    repeat refine peel ?_
    refine hK _ _ _ ?_; clear hK K
    refine awp_reg zs [1, 2, 8, 9, 15, 16, 17] fun K hK => ?_
    try simp only [go_sem, seval, List.length_map, Int.toNat_natCast, hn2, hsz, hag, hmo]
    repeat refine peel ?_
    refine hK _ _ _ ?_; clear hK K
    refine awp_reg zs [1, 2, 15, 16, 17, 30] fun K hK => ?_
    try simp only [go_sem, seval, hsz, hag]
    refine callK_use Tryz.func84 rfl rfl rfl (c_order_Same_S2 _ _ _ _) ?_
    try simp only [go_sem, seval]
    refine hK _ _ _ ?_; clear hK K
    refine awp_cnd (fun hb => ?_) (fun hb => ?_)
    ·skip
     have hne : ¬ a = b := fun e => by rw [← hix] at e; have := e.1; simp_all
     refine awp_reg zs [6] fun K hK => ?_
     try simp only [go_sem, seval]
     refine hK _ _ _ ?_; clear hK K
     refine awp_ret ?_
     try simp only [go_sem, seval]
     first | (refine ⟨_, rfl, Frz.eq ?_ trivial⟩; first | (simp [heq]; done) | (simp [hne]; done)) | exact ⟨_, rfl, fun k hk => by (repeat rw [if_neg (by omega)]); first | rfl | exact hlow k hk, Frz.eq (by first | simp [heq] | simp [hne]) trivial⟩
    ·skip
     have hx : a.getD i default = b.getD i default := by simp at hb; simpa using hb
     have hnext : (a.drop (i + 1) = b.drop (i + 1)) ↔ a = b := by rw [← hix]; simp only [hx, true_and]
     refine awp_skip ?_
     try simp only [go_sem, seval]
     refine hK4 _ _ _ ?_
     first | clear hK4 K4 | skip
     refine awp_reg1 zs [1, 2, 15, 16, 17] fun K hK => ?_
     try simp only [go_sem, seval]
     refine hK _ _ _ ?_; clear hK K
     try simp only [go_sem, seval]
     refine ⟨⟨i + 1, by omega, by rw [w1 (by omega)], fun k hk => ?_, by omega, hnext⟩, by rw [w1 (by omega)]; simp; omega⟩
     (repeat rw [if_neg (by omega)])
     exact hlow k hk
   ·skip
    have hge : i = a.length := by simp at hb; omega
    have heq : a = b := by rw [← hix, hge, List.drop_length, hl, List.drop_length]
    refine awp_exit ?_
    try simp only [go_sem, seval]
    refine hK2 _ _ _ ?_
    first | clear hK2 K2 | skip
    refine awp_reg zs [6] fun K hK => ?_
    try simp only [go_sem, seval]
    refine hK _ _ _ ?_; clear hK K
    refine awp_ret ?_
    try simp only [go_sem, seval]
    first | (refine ⟨_, rfl, Frz.eq ?_ trivial⟩; first | (simp [heq]; done) | (simp [hne]; done)) | exact ⟨_, rfl, fun k hk => by (repeat rw [if_neg (by omega)]); first | rfl | exact hlow k hk, Frz.eq (by first | simp [heq] | simp [hne]) trivial⟩
set_option maxRecDepth 100000 in
set_option maxHeartbeats 3200000 in
theorem c_order_Same (a b : CmdE) (ha : a.fits) (H : Heap) (n : Nat) : Ret Tryz.prog 31 [cmdAV a, cmdAV b] H n (.bool (decide (a = b))) H n := by
  have hszqa : (qryAV a.q).sz = 10 := qryAV_sz a.q
  have hagqa : (qryAV a.q).isAgg = true := rfl
  have hmoqa : (qryAV a.q).memOK = true := rfl
  have hszqb : (qryAV b.q).sz = 10 := qryAV_sz b.q
  have hagqb : (qryAV b.q).isAgg = true := rfl
  have hmoqb : (qryAV b.q).memOK = true := rfl
  refine Ret.fin ?_
  refine acalls_of_awp Tryz.func31 rfl Tryz.ntmps31 (congrArg Array.toList Tryz.results31) (by simp) ?_
  simp only [go_sem]
  refine awp_reg zs [2, 3] fun K hK => ?_
  try simp only [go_sem, seval, cmdAV, hszqa, hszqb]
  refine hK _ _ _ ?_; clear hK K
  refine awp_reg zs [4] fun K hK => ?_
  try simp only [go_sem, seval]
  repeat refine peel ?_
  refine callG_use Tryz.func77 rfl rfl rfl (fun _ => (c_bytes_Equal a.row b.row _ _)) ?_
  try simp only [go_sem, seval, hszqa, hagqa, hszqb, hagqb]
  repeat refine peel ?_
  refine callG_use Tryz.func54 rfl rfl rfl (fun _ => (c_order_sameQuery a.q b.q ha.fams _ _)) ?_
  try simp only [go_sem, seval]
  repeat refine peel ?_
  refine callG_use Tryz.func81 rfl rfl rfl (fun _ => (c_slices_EqualFunc_Cond a.conds b.conds ha.conds _ _)) ?_
  try simp only [go_sem, seval]
  repeat refine peel ?_
  refine callG_use Tryz.func83 rfl rfl rfl (fun _ => (c_slices_EqualFunc_Op a.ops b.ops ha.ops _ _)) ?_
  try simp only [go_sem, seval]
  repeat refine peel ?_
  refine hK _ _ _ ?_; clear hK K
  refine awp_ret ?_
  try simp only [go_sem, seval]
  refine ⟨_, rfl, ?_, Frz.eq ?_ trivial⟩
  · intro k hk; have h0 : k ≠ n := by omega
    have h1 : ∀ j, k ≠ n + j := fun j => by omega
    simp [Heap.put, h0, h1]
  · congr 1
    cases a; cases b
    rw [Bool.eq_iff_iff]
    simp only [CmdE.mk.injEq, decide_eq_true_eq, Bool.cond_false_right, Bool.and_eq_true, beq_iff_eq, and_assoc]
    constructor
    · rintro ⟨e1, e2, e3, e4, e5, e6, e7, e8⟩; exact ⟨e1, e2, e3, e4, e7, e8, e5, e6⟩
    · rintro ⟨e1, e2, e3, e4, e5, e6, e7, e8⟩; exact ⟨e1, e2, e3, e4, e7, e8, e5, e6⟩
theorem checkC_kind {qc : Int} {s : List Fml} {c : CmdE} (h : checkC qc s c = 0) : 1 ≤ c.kind ∧ c.kind ≤ 7 := by
  unfold checkC at h
  split at h
  · cases h
  · split at h
    · cases h
    · rename_i hb
      simp [bout] at hb
      omega
set_option maxRecDepth 100000 in
set_option maxHeartbeats 3200000 in
theorem c_order_Encode (s : List Fml) (hs : s.length ≤ 2000000) (c : CmdE) (hc : c.fits) (qc : Int) {H : Heap} {n : Nat} (hG : GOK 0 2 H n)
    (hq : kQuery c.kind = true → ∀ H n, GOK 0 2 H n → Ret Tryz.prog 53 [schAV s, qryAV c.q] H n (.int .i64 qc) H n) :
    Ret Tryz.prog 17 [schAV s, cmdAV c] H n (.tup [bys (if checkC qc s c = 0 then cmdB c else []), .int .i64 (checkC qc s c)]) H n := by
  have hszs : (schAV s).sz = 1 := rfl
  have hags : (schAV s).isAgg = true := rfl
  have hmos : (schAV s).memOK = true := rfl
  have hcag : (cmdAV c).isAgg = true := rfl
  have hcmo : (cmdAV c).memOK = true := rfl
  have hsz : (cmdAV c).sz = 17 := cmdAV_sz c
  refine Ret.fin ?_
  refine acalls_of_awp Tryz.func17 rfl Tryz.ntmps17 (congrArg Array.toList Tryz.results17) (by simp) ?_
  simp only [go_sem]
  refine awp_reg zs [2, 3] fun K hK => ?_
  try simp only [go_sem, seval, hcmo, hsz]
  refine hK _ _ _ ?_; clear hK K
  refine awp_seq_k fun K1 hK1 => ?_
  have hG1 := hG.on (H' := (H.put n (some (.arr 0 1 [schAV s]))).put (n + 1) (some (.arr 0 17 [cmdAV c]))) (n' := n + 2) (fun k hk => by simp only [Heap.put_get]; (repeat rw [if_neg (by omega)])) (by omega)
  refine awp_reg zs [3, 6] fun K hK => ?_
  try simp only [go_sem, seval, hcag, hsz]
  refine callK_use Tryz.func15 rfl rfl rfl ((c_order_Check s hs c hc qc hq _ _ hG1)) ?_
  try simp only [go_sem, seval]
  refine hK _ _ _ ?_; clear hK K
  refine awp_reg zs [3, 6, 11] fun K hK => ?_
  try simp only [go_sem, seval]
  refine hK _ _ _ ?_; clear hK K
  refine awp_cnd (fun hb => ?_) (fun hb => ?_)
  ·skip
   have hn : ¬ checkC qc s c = 0 := by simpa using hb
   refine awp_reg zs [4, 5] fun K hK => ?_
   try simp only [go_sem, seval]
   refine hK _ _ _ ?_; clear hK K
   refine awp_ret ?_
   try simp only [go_sem, seval]
   refine ⟨_, rfl, fun k hk => by (repeat rw [if_neg (by omega)]), ?_⟩
   first | (rw [if_neg hn]; exact .tup (.cons .nilsl (.cons (.kl trivial) .nil))) | (rw [hy, if_pos rfl]; exact .tup (.cons (.kl (kls_bytes _ _)) (.cons (.kl trivial) .nil)))
  ·skip
   have hy : checkC qc s c = 0 := by simpa using hb
   refine awp_skip ?_
   try simp only [go_sem, seval]
   refine hK1 _ _ _ ?_
   first | clear hK1 K1 | skip
   refine awp_reg zs [4, 5] fun K hK => ?_
   try simp only [go_sem, seval, hcag, hsz]
   refine callK_use Tryz.func55 rfl rfl rfl ((c_order_written c hc (checkC_kind hy).1 (checkC_kind hy).2 _ _ hG1)) ?_
   try simp only [go_sem, seval]
   refine callK_use Tryz.func64 rfl rfl rfl ((c_slices_Clip (cmdB c) _ _)) ?_
   try simp only [go_sem, seval]
   refine hK _ _ _ ?_; clear hK K
   refine awp_ret ?_
   try simp only [go_sem, seval]
   refine ⟨_, rfl, fun k hk => by (repeat rw [if_neg (by omega)]), ?_⟩
   first | (rw [if_neg hn]; exact .tup (.cons .nilsl (.cons (.kl trivial) .nil))) | (rw [hy, if_pos rfl]; exact .tup (.cons (.kl (kls_bytes _ _)) (.cons (.kl trivial) .nil)))
end Go.Proofs.YtifnhpmeoogedaaGreatDoor
namespace Go.Sx
open Go
def LowO (H0 H H' : Heap) (n k : Nat) : Prop :=
  (H' k = H k ∧ (H k = H0 k ∨ ∀ o, H k = some o → o.kl n)) ∨ ∃ ver e els els', H k = some (.arr ver e els) ∧ H' k = some (.arr ver e els') ∧ FrzL H n els els'
theorem Step.fin2 {c0 c : Ctx} {H0 H H' : Heap} {n n' : Nat} {w0 w : World} (hs0 : Sim c0 H0 n w0) (h : Step c0 H0 w0 c H n' w)
    (hlow : ∀ k, k < n → LowO H0 H H' n k) (hhigh : ∀ k, n ≤ k → H' k = H0 k) : Step c0 H0 w0 (c.frz H n w) H' n w := by
  have hu : c0.under n := fun k v hk => (hs0.fresh k hk).2 v
  have hnone : ∀ k, n ≤ k → H' k = none := fun k hk => by rw [hhigh k hk]; exact (hs0.fresh k hk).1
  have hkl : ∀ k o, H' k = some o → k < n ∧ ∃ o1, H k = some o1 ∧ o1.ver = o.ver ∧ OwnOK (c.frz H n w) k w o := fun k o hk => by
    have hkn : k < n := by
      rcases Nat.lt_or_ge k n with h | h
      · exact h
      · rw [hnone k h] at hk; simp at hk
    refine ⟨hkn, ?_⟩
    rcases hlow k hkn with ⟨h1, h2⟩ | ⟨ver, e, els, els', h1, h2, h3⟩
    · rw [h1] at hk
      refine ⟨o, hk, rfl, (h.sim.own k o hk).low (c.frz_low H n w) hkn ?_⟩
      rcases h2 with h2 | h2
      · exact (hs0.own k o (by rw [← h2]; exact hk)).kl hu
      · exact h2 o hk
    · rw [h2] at hk
      cases hk
      refine ⟨_, h1, rfl, ?_⟩
      have ho := h.sim.own k _ h1
      simp only [OwnOK] at ho ⊢
      obtain ⟨l, g1, hm⟩ := ho
      refine ⟨l, (c.frz_low H n w).ρ hkn g1, ?_⟩
      cases l with
      | nil =>
        simp only at hm ⊢
        subst hm
        cases h3
        rfl
      | blk b cap e' =>
        obtain ⟨e1, e2, e3, arr, ty, ds, e4, e5, hr, e6⟩ := hm
        exact ⟨e1, h3.szAll e2, by rw [← h3.len]; exact e3, arr, ty, ds, e4, e5, FrzL.relF h.sim h3 hr, e6⟩
  have hbo : ∀ k (o o1 : AObj), k < n → o1.ver = o.ver → blockOf (c.frz H n w) k o = blockOf c k o1 := fun k o o1 hk hv => by
    unfold blockOf
    have : (c.frz H n w).ρ k o.ver = c.ρ k o1.ver := by show (if k < n then _ else none) = _; rw [if_pos hk, hv]
    rw [this]
  exact {
    le := {
      ρ := fun {k v l} hk => by
        have hkn : k < n := by
          rcases Nat.lt_or_ge k n with h | h
          · exact h
          · rw [hu k v h] at hk; simp at hk
        exact (c.frz_low H n w).ρ hkn (h.le.ρ hk)
      ro := fun hb => (c.frz_low H n w).ro (h.le.ro hb) }
    sim := {
      ro := fun b a hb => by
        simp only [Ctx.frz] at hb
        split at hb
        · rename_i a' hr; cases hb; exact h.sim.ro b _ hr
        · split at hb
          · split at hb
            · rename_i _ _ hw; cases hb; exact ⟨_, _, hw⟩
            · simp at hb
          · simp at hb
      own := fun k o hk => by
        obtain ⟨_, _, _, _, h3⟩ := hkl k o hk
        exact h3
      sep := fun k o b hk hb => by
        obtain ⟨h1, o1, h2, h3, _⟩ := hkl k o hk
        rw [hbo k o o1 h1 h3] at hb
        have h4 := h.sim.sep k o1 b h2 hb
        simp only [Ctx.frz, h4]
        rw [if_neg]
        rintro ⟨k', ver, e, els, hn', hk', hb'⟩
        have := h.sim.inj k k' o1 _ b h2 hk' hb hb'
        omega
      inj := fun k k' o o' b h1 h2 b1 b2 => by
        obtain ⟨h3, o1, h4, h5, _⟩ := hkl k o h1
        obtain ⟨h6, o2, h7, h8, _⟩ := hkl k' o' h2
        rw [hbo k o o1 h3 h5] at b1
        rw [hbo k' o' o2 h6 h8] at b2
        exact h.sim.inj k k' o1 o2 b h4 h7 b1 b2
      fresh := fun k hk => ⟨hnone k hk, fun v => by show (if k < n then _ else none) = none; rw [if_neg (by omega)]⟩
      vers := fun k o v hk hv => by
        obtain ⟨h3, o1, h4, h5, _⟩ := hkl k o hk
        show (if k < n then c.ρ k v else none) = none
        rw [if_pos h3]
        exact h.sim.vers k o1 v h4 (by rw [h5]; exact hv) }
    fr := h.fr
    new := fun b ⟨k, o, hk, hb⟩ => by
      obtain ⟨h3, o1, h4, h5, _⟩ := hkl k o hk
      rw [hbo k o o1 h3 h5] at hb
      exact h.new b ⟨k, o1, h4, hb⟩ }
theorem ACalls.finL {P : Program} {f : FuncId} {args : List AV} {H : Heap} {n : Nat} {K : ARes → Heap → Nat → Prop}
    (h : ACalls P f args H n fun res H1 n' => (∃ r r' H', res = .val r ∧ (∀ k, k < n → LowO H H1 H' n k) ∧ (∀ k, n ≤ k → H' k = H k) ∧ Frz H1 n r r' ∧ K (.val r') H' n) ∨ ∃ p, res = .pan p ∧ K (.pan p) H1 n') : ACalls P f args H n K :=
  fun c w vs hs hr => (h c w vs hs hr).mono fun e w' ⟨res, c', H1, n', hd, hst, hm⟩ => by
    rcases hd with ⟨r, r', H', hres, hlow, hhigh, hfrz, hK⟩ | ⟨p, hres, hK⟩
    · subst hres
      refine ⟨.val r', c'.frz H1 n w', H', n, hK, Step.fin2 hs hst hlow hhigh, ?_⟩
      cases e with
      | returned v => exact Frz.rel hst.sim hfrz hm
      | panicked _ => exact hm.elim
      | outgrown => exact hm.elim
    · subst hres
      exact ⟨.pan p, c', H1, n', hK, hst, hm⟩
end Go.Sx
namespace Go.Rt
open Go Go.Sx
def shownB (x : CelE) : Bool := bif (bif (bif !bout x.fam 0 7 then decide ((x.qual.length : Int) ≤ 256) else false) then !bout x.ts 1 1099511627776 else false) then decide ((x.value.length : Int) ≤ 4096) else false
def rowOK (r : RowE) : Bool := !bout r.row.length 1 256 && r.cells.all shownB
def headBad (r : RepE) : Bool := bif (bif bout r.err 0 999 then true else decide (r.value < 0)) then true else decide ((r.rows.length : Int) > 1000)
def soundB (r : RepE) : Bool := !headBad r && r.rows.all rowOK
theorem all_drop_succ {α : Type} [Inhabited α] (p : α → Bool) (l : List α) {i : Nat} (h : i < l.length) : (l.drop i).all p = (p (l.getD i default) && (l.drop (i + 1)).all p) := by
  rw [drop_cons l i h]; rfl
end Go.Rt
namespace Go.Rt
open Go Go.Sx
theorem shownB_le {x : CelE} (h : shownB x = true) : x.qual.length ≤ 256 ∧ x.value.length ≤ 4096 := by
  unfold shownB at h
  simp only [Bool.cond_false_right, Bool.and_eq_true, decide_eq_true_eq] at h
  omega
theorem rowOK_le {x : RowE} (h : rowOK x = true) : x.row.length ≤ 256 ∧ ∀ y ∈ x.cells, y.qual.length ≤ 256 ∧ y.value.length ≤ 4096 := by
  unfold rowOK at h
  simp only [Bool.and_eq_true, List.all_eq_true] at h
  refine ⟨?_, fun y hy => shownB_le (h.2 y hy)⟩
  have := h.1
  simp [bout] at this
  omega
theorem soundB_le {r : RepE} (h : soundB r = true) : r.rows.length ≤ 1000 ∧ ∀ x ∈ r.rows, x.row.length ≤ 256 ∧ ∀ y ∈ x.cells, y.qual.length ≤ 256 ∧ y.value.length ≤ 4096 := by
  unfold soundB at h
  simp only [Bool.and_eq_true, List.all_eq_true, Bool.not_eq_true'] at h
  refine ⟨?_, fun x hx => rowOK_le (h.2 x hx)⟩
  have := h.1
  unfold headBad at this
  simp at this
  omega
end Go.Rt
namespace Go.Rt
open Go Go.Sx
def encR (r : RepE) : List UInt8 × Int := if soundB r = false then ([], 147) else if 1048576 < (repB r).length then ([], 2) else (repB r, 0)
end Go.Rt
namespace Go.Rt
open Go Go.Sx
def rdCel (b : List UInt8) (p : Nat) : Option (CelE × Nat) :=
  (rdByte b p).bind fun f => (rdBytes b f.2).bind fun q => (rdUint b q.2).bind fun t => (rdBytes b t.2).bind fun v => some (⟨f.1, q.1, t.1, v.1⟩, v.2)
def rdRow (b : List UInt8) (p : Nat) : Option (RowE × Nat) := (rdBytes b p).bind fun r => (rdList rdCel b r.2).bind fun l => some (⟨r.1, l.1⟩, l.2)
def zr : RepE := ⟨0, false, 0, [], [], false⟩
def rp1 (b : List UInt8) (r : RepE) (p : Nat) : Option (RepE × Nat) := (rdUint b p).bind fun e => (rdByte b e.2).bind fun h => (rdUint b h.2).bind fun v => some ({ r with err := e.1, held := h.1 == 1, value := v.1 }, v.2)
def rp2 (b : List UInt8) (r : RepE) (p : Nat) : Option (RepE × Nat) := (rdList rdRow b p).bind fun l => some ({ r with rows := l.1 }, l.2)
def rp3 (b : List UInt8) (r : RepE) (p : Nat) : Option (RepE × Nat) := (rdBytes b p).bind fun t => (rdByte b t.2).bind fun d => some ({ r with token := t.1, done := d.1 == 1 }, d.2)
def rdRep (b : List UInt8) : Option RepE := (rp1 b zr 0).bind fun x => (rp2 b x.1 x.2).bind fun x => (rp3 b x.1 x.2).bind fun x => if x.2 = b.length then some x.1 else none
theorem rdCel_le {b : List UInt8} {p q : Nat} {x : CelE} (h : rdCel b p = some (x, q)) : q ≤ b.length := by
  simp only [rdCel, Option.bind_eq_some_iff] at h
  obtain ⟨⟨k, p1⟩, h1, ⟨f, p2⟩, h2, ⟨qq, p3⟩, h3, ⟨v, p4⟩, h4, h5⟩ := h
  simp only [Option.some.injEq, Prod.mk.injEq] at h5
  have e4 := rdBytes_le h4
  omega
theorem rdCels_le {b : List UInt8} {p q : Nat} {l : List CelE} (h : rdList rdCel b p = some (l, q)) : q ≤ b.length ∧ l.length ≤ b.length := rdList_le (fun h => rdCel_le h) h
theorem rdRow_le {b : List UInt8} {p q : Nat} {x : RowE} (h : rdRow b p = some (x, q)) : q ≤ b.length ∧ x.cells.length ≤ b.length := by
  simp only [rdRow, Option.bind_eq_some_iff] at h
  obtain ⟨⟨k, p1⟩, h1, ⟨f, p2⟩, h2, h5⟩ := h
  simp only [Option.some.injEq, Prod.mk.injEq] at h5
  obtain ⟨rfl, rfl⟩ := h5
  exact rdCels_le h2
theorem rdRows_le {b : List UInt8} {p q : Nat} {l : List RowE} (h : rdList rdRow b p = some (l, q)) : q ≤ b.length ∧ l.length ≤ b.length := rdList_le (fun h => (rdRow_le h).1) h
theorem rdRows_all {b : List UInt8} {p q : Nat} {l : List RowE} (h : rdList rdRow b p = some (l, q)) : ∀ x ∈ l, x.cells.length ≤ b.length := rdList_all (fun h => (rdRow_le h).2) h
theorem kl_celAV (x : CelE) (n : Nat) : (celAV x).kl n := ⟨trivial, kls_bytes _ _, trivial, kls_bytes _ _, trivial⟩
theorem kl_rowAV (x : RowE) (n : Nat) : (rowAV x).kl n := ⟨kls_bytes _ _, kls_map celAV (fun x => kl_celAV x n) _, trivial⟩
end Go.Rt
namespace Go.Rt
open Go Go.Sx
def repN (r : RepE) : AV := .agg [.int .i64 r.err, .bool r.held, .int .i64 r.value, .agg [.nilsl, bys r.token, .bool r.done]]
def StR (torn : AV) (kr kc : Nat) (b : List UInt8) (f : RepE → AV) (H : Heap) (n : Nat) (r : Option (RepE × Nat)) (res : ARes) (H' : Heap) (n' : Nat) : Prop :=
  match r with
  | some x => res = .val (.tup []) ∧ n' = n ∧ x.2 ≤ b.length ∧ H' kr = some (rdO b x.2) ∧ H' kc = some (.arr 0 6 [f x.1]) ∧ ∀ k, k < n → k ≠ kr → k ≠ kc → H' k = H k
  | none => res = .pan torn ∧ n ≤ n' ∧ ∀ k, k < n → k ≠ kr → k ≠ kc → H' k = H k
section
variable {torn : AV} {kr kc : Nat} {b : List UInt8} {f : RepE → AV} {H : Heap} {n : Nat} {r : Option (RepE × Nat)} {H' : Heap} {n' : Nat}
theorem StR.som {c : RepE} {q : Nat} (hr : r = some (c, q)) (hn : n' = n) (hq : q ≤ b.length) (h1 : H' kr = some (rdO b q)) (h2 : H' kc = some (.arr 0 6 [f c])) (h4 : ∀ k, k < n → k ≠ kr → k ≠ kc → H' k = H k) : StR torn kr kc b f H n r (.val (.tup [])) H' n' := by
  subst hr; exact ⟨rfl, hn, hq, h1, h2, h4⟩
theorem StR.non (hr : r = none) (hn : n ≤ n') (h4 : ∀ k, k < n → k ≠ kr → k ≠ kc → H' k = H k) : StR torn kr kc b f H n r (.pan torn) H' n' := by
  subst hr; exact ⟨rfl, hn, h4⟩
theorem StR.fin {P : Program} {g : FuncId} {args : List AV} (hk : kr < n) (hkc : kc < n) (hne : kr ≠ kc)
    (h : ACalls P g args H n fun res H1 n' => (∃ x q a, res = .val (.tup []) ∧ r = Option.some (x, q) ∧ q ≤ b.length ∧ H1 kr = Option.some (rdO b q) ∧ H1 kc = Option.some (.arr 0 6 [a]) ∧ Frz H1 n a (f x) ∧ ∀ k, k < n → k ≠ kr → k ≠ kc → H1 k = H k) ∨ (r = Option.none ∧ res = .pan torn ∧ n ≤ n' ∧ ∀ k, k < n → k ≠ kr → k ≠ kc → H1 k = H k)) :
    ACalls P g args H n (StR torn kr kc b f H n r) :=
  ACalls.finL (h.mono fun res H1 n' hd => by
    rcases hd with ⟨x, q, a, h1, h2, h3, h4, h5, h6, h7⟩ | ⟨h1, h2, h3, h4⟩
    · refine .inl ⟨.tup [], .tup [], (H.put kr (Option.some (rdO b q))).put kc (Option.some (.arr 0 6 [f x])), h1, fun k hk2 => ?_, fun k hk2 => by rw [Heap.put_ne _ _ (by omega), Heap.put_ne _ _ (by omega)], .tup .nil, StR.som h2 rfl h3 (by rw [Heap.put_ne _ _ hne, Heap.put_same]) (Heap.put_same _ _ _) fun k e1 e2 e3 => by rw [Heap.put_ne _ _ e3, Heap.put_ne _ _ e2]⟩
      by_cases e : k = kc
      · subst e
        exact .inr ⟨0, 6, [a], [f x], h5, Heap.put_same _ _ _, .cons h6 .nil⟩
      · rw [LowO, Heap.put_ne _ _ e]
        by_cases e2 : k = kr
        · subst e2
          rw [Heap.put_same, h4]
          exact .inl ⟨rfl, .inr fun o ho => by cases ho; exact ⟨⟨kls_bytes b n, trivial, trivial⟩, trivial⟩⟩
        · rw [Heap.put_ne _ _ e2, h7 k hk2 e2 e]
          exact .inl ⟨rfl, .inl rfl⟩
    · exact .inr ⟨torn, h2, StR.non h1 h3 h4⟩)
end
end Go.Rt
namespace Go.Rt
open Go Go.Sx
def rpi (i : Nat) (b : List UInt8) (r : RepE) (p : Nat) : Option (RepE × Nat) := match i with
  | 0 => rp1 b r p
  | 1 => rp2 b r p
  | _ => rp3 b r p
def rpch (b : List UInt8) : Nat → Option (RepE × Nat)
  | 0 => some (zr, 0)
  | i + 1 => (rpch b i).bind fun x => rpi i b x.1 x.2
theorem rpch_none {b : List UInt8} {i : Nat} (h : rpch b i = none) : ∀ j, rpch b (i + j) = none
  | 0 => h
  | j + 1 => by show (rpch b (i + j)).bind _ = none; rw [rpch_none h j]; rfl
theorem rpch_dead {b : List UInt8} {i k : Nat} (h : rpch b i = none) (hik : i ≤ k) : rpch b k = none := by
  have := rpch_none h (k - i)
  rwa [show i + (k - i) = k by omega] at this
theorem rdRep_rpch (b : List UInt8) : rdRep b = (rpch b 3).bind fun x => if x.2 = b.length then some x.1 else none := by
  simp only [rdRep, rpch, rpi, Option.bind_some, Option.bind_assoc]
def decR (b : List UInt8) : RepE × Int :=
  if 1048576 < b.length then (zr, 2) else match rdRep b with
    | some r => if soundB r = true ∧ repB r = b then (r, 0) else (zr, 147)
    | none => (zr, 147)
def repZ : AV := .agg [.int .i64 0, .bool false, .int .i64 0, .agg [.nilsl, .nilsl, .bool false]]
theorem repZ_wk : Wk repZ (repN zr) := Wk.agg ⟨.refl _, .refl _, .refl _, Wk.agg ⟨.refl _, .nilsl _, .refl _, trivial⟩, trivial⟩
theorem repZ_frz (H : Heap) (n : Nat) : Frz H n repZ (repAV zr) := .agg (.cons (.kl trivial) (.cons (.kl trivial) (.cons (.kl trivial) (.cons (.agg (.cons .nilsl (.cons .nilsl (.cons (.kl trivial) .nil)))) .nil))))
theorem kl_repAV (r : RepE) (n : Nat) : (repAV r).kl n := ⟨trivial, trivial, trivial, ⟨kls_map rowAV (fun x => kl_rowAV x n) _, kls_bytes _ _, trivial, trivial⟩, trivial⟩
theorem rdRep_le {b : List UInt8} {r : RepE} (h : rdRep b = some r) : r.rows.length ≤ b.length ∧ (∀ x ∈ r.rows, x.cells.length ≤ b.length) ∧ r.token.length ≤ b.length := by
  simp only [rdRep, Option.bind_eq_some_iff] at h
  obtain ⟨⟨c1, p1⟩, h1, ⟨c2, p2⟩, h2, ⟨c3, p3⟩, h3, h6⟩ := h
  split at h6
  · cases h6
    simp only [rp2, Option.bind_eq_some_iff] at h2
    obtain ⟨⟨l, q⟩, g1, g2⟩ := h2
    simp only [Option.some.injEq, Prod.mk.injEq] at g2
    obtain ⟨rfl, rfl⟩ := g2
    simp only [rp3, Option.bind_eq_some_iff] at h3
    obtain ⟨⟨t, q2⟩, g3, ⟨d, q3⟩, g4, g5⟩ := h3
    simp only [Option.some.injEq, Prod.mk.injEq] at g5
    obtain ⟨rfl, rfl⟩ := g5
    exact ⟨(rdRows_le g1).2, rdRows_all g1, by have := rdBytes_le g3; show t.length ≤ _; omega⟩
  · cases h6
end Go.Rt
namespace Go.Proofs.YtifnhpmeoogedaaGreatDoor
open Go Go.Sx Go.Rt Go.Proofs
theorem c_order_shown (x : CelE) (H : Heap) (n : Nat) : Ret Tryz.prog 133 [celAV x] H n (.bool (shownB x)) H n := by
  refine Ret.fin ?_
  refine acalls_of_awp Tryz.func133 rfl Tryz.ntmps133 (congrArg Array.toList Tryz.results133) (by simp) ?_
  simp only [go_sem]
  refine awp_reg zs [1] fun K hK => ?_
  try simp only [go_sem, seval, celAV]
  refine hK _ _ _ ?_; clear hK K
  refine awp_reg zs [2] fun K hK => ?_
  try simp only [go_sem, seval]
  refine callK_use Tryz.func48 rfl rfl rfl ((c_order_outside x.fam 0 7 _ _)) ?_
  try simp only [go_sem, seval, List.length_map]
  repeat refine peel ?_
  refine callG_use Tryz.func48 rfl rfl rfl (fun _ => (c_order_outside x.ts 1 1099511627776 _ _)) ?_
  try simp only [go_sem, seval, List.length_map]
  repeat refine peel ?_
  refine hK _ _ _ ?_; clear hK K
  refine awp_ret ?_
  try simp only [go_sem, seval]
  refine ⟨_, rfl, ?_, Frz.eq ?_ trivial⟩
  · intro k hk; rw [if_neg (by omega)]
  · simp [shownB]
set_option maxRecDepth 100000 in
theorem c_order_sound (r : RepE) (hr : r.rows.length ≤ 1048576) (hc : ∀ x ∈ r.rows, x.cells.length ≤ 1048576) (H : Heap) (n : Nat) : Ret Tryz.prog 85 [repAV r] H n (.bool (soundB r)) H n := by
  have hrz : ∀ x, (rowAV x).sz = 2 := fun _ => rfl
  have hrg : ∀ x, (rowAV x).isAgg = true := fun _ => rfl
  have hrm : ∀ x, (rowAV x).memOK = true := fun _ => rfl
  have hcz : ∀ x, (celAV x).sz = 4 := fun _ => rfl
  have hcg : ∀ x, (celAV x).isAgg = true := fun _ => rfl
  have hcm : ∀ x, (celAV x).memOK = true := fun _ => rfl
  refine Ret.fin ?_
  refine acalls_of_awp Tryz.func85 rfl Tryz.ntmps85 (congrArg Array.toList Tryz.results85) (by simp) ?_
  simp only [go_sem]
  refine awp_reg zs [1] fun K hK => ?_
  try simp only [go_sem, seval, repAV]
  refine hK _ _ _ ?_; clear hK K
  refine awp_seq_k fun K1 hK1 => ?_
  refine awp_reg zs [1, 21] fun K hK => ?_
  try simp only [go_sem, seval]
  refine callK_use Tryz.func48 rfl rfl rfl ((c_order_outside r.err 0 999 _ _)) ?_
  try simp only [go_sem, seval, List.length_map]
  repeat refine peel ?_
  refine hK _ _ _ ?_; clear hK K
  refine awp_cnd (fun hb => ?_) (fun hb => ?_)
  ·skip
   have hh : headBad r = true := hb
   have hs : soundB r = false := by simp [soundB, hh]
   refine awp_reg zs [2] fun K hK => ?_
   try simp only [go_sem, seval]
   refine hK _ _ _ ?_; clear hK K
   refine awp_ret ?_
   try simp only [go_sem, seval]
   refine ⟨_, rfl, fun k hk => ?_, Frz.eq (by rw [hs]) trivial⟩
   (repeat rw [if_neg (by omega)])
   try first | rfl | exact hlow k hk
  ·skip
   have hh : headBad r = false := hb
   refine awp_skip ?_
   try simp only [go_sem, seval]
   refine hK1 _ _ _ ?_
   first | clear hK1 K1 | skip
   refine awp_seq_k fun K2 hK2 => ?_
   refine awp_reg zs [24, 25, 26] fun K hK => ?_
   try simp only [go_sem, seval, List.length_map]
   refine hK _ _ _ ?_; clear hK K
   refine awp_block ?_
   refine awp_loop (fun T' H' n' => ∃ i : Nat, i ≤ r.rows.length ∧ T' = tl [(24, .sl 2 (r.rows.map rowAV)), (25, .int .i64 r.rows.length), (26, .int .i64 i)] ∧ (∀ k, k < n → H' k = H k) ∧ n ≤ n' ∧ r.rows.all rowOK = (r.rows.drop i).all rowOK) (fun T' _ _ => r.rows.length - iv (T' 26)) ?_ ?_
   ·skip
    exact ⟨0, Nat.zero_le _, rfl, fun k hk => by rw [Heap.put_ne _ _ (by omega)], by omega, by simp⟩
   intro T1 H1 n1
   rintro ⟨i, hi, rfl, hlow, hnn, hix⟩
   refine awp_reg zs [24, 25, 26, 27] fun K hK => ?_
   try simp only [go_sem, seval]
   refine hK _ _ _ ?_; clear hK K
   refine awp_seq_k fun K3 hK3 => ?_
   refine awp_cnd (fun hb => ?_) (fun hb => ?_)
   ·skip
    have hlt : i < r.rows.length := by have := of_decide_eq_true hb; omega
    rw [all_drop_succ _ _ hlt] at hix
    have hn1 : nth (r.rows.map rowAV) i = rowAV (r.rows.getD i default) := nth_map rowAV r.rows i hlt
    have hcx := hc (r.rows.getD i default) (getD_mem _ hlt)
    generalize r.rows.getD i default = x at *
    refine awp_skip ?_
    try simp only [go_sem, seval]
    refine hK3 _ _ _ ?_
    first | clear hK3 K3 | skip
    refine awp_seq_k fun K4 hK4 => ?_
    refine awp_block ?_
    refine awp_reg zs [4, 24, 25, 26] fun K hK => ?_
    try simp only [go_sem, seval, List.length_map, hrz, hrg, hrm, Int.toNat_natCast, hn1]
    repeat refine peel ?_
    refine hK _ _ _ ?_; clear hK K
    refine awp_seq_k fun K5 hK5 => ?_
    refine awp_reg zs [4, 24, 25, 26, 33] fun K hK => ?_
    try simp only [go_sem, seval, List.length_map, rowAV, bys]
    refine callK_use Tryz.func48 rfl rfl rfl ((c_order_outside x.row.length 1 256 _ _)) ?_
    refine hK _ _ _ ?_; clear hK K
    refine awp_cnd (fun hb => ?_) (fun hb => ?_)
    ·skip
     have hs : soundB r = false := by unfold soundB; rw [hix]; simp [rowOK, hb]
     refine awp_reg zs [2] fun K hK => ?_
     try simp only [go_sem, seval]
     refine hK _ _ _ ?_; clear hK K
     refine awp_ret ?_
     try simp only [go_sem, seval]
     refine ⟨_, rfl, fun k hk => ?_, Frz.eq (by rw [hs]) trivial⟩
     (repeat rw [if_neg (by omega)])
     try first | rfl | exact hlow k hk
    ·skip
     have hro : bout x.row.length 1 256 = false := hb
     refine awp_skip ?_
     try simp only [go_sem, seval]
     refine hK5 _ _ _ ?_
     first | clear hK5 K5 | skip
     refine awp_reg zs [24, 25, 26, 35, 36, 37] fun K hK => ?_
     try simp only [go_sem, seval, List.length_map]
     refine hK _ _ _ ?_; clear hK K
     refine awp_block ?_
     refine awp_loop (fun T' H' n' => ∃ j : Nat, j ≤ x.cells.length ∧ T' = tl [(24, .sl 2 (r.rows.map rowAV)), (25, .int .i64 r.rows.length), (26, .int .i64 i), (35, .sl 4 (x.cells.map celAV)), (36, .int .i64 x.cells.length), (37, .int .i64 j)] ∧ (∀ k, k < n → H' k = H k) ∧ n ≤ n' ∧ x.cells.all shownB = (x.cells.drop j).all shownB) (fun T' _ _ => x.cells.length - iv (T' 37)) ?_ ?_
     ·skip
      exact ⟨0, Nat.zero_le _, rfl, fun k hk => by rw [Heap.put_ne _ _ (by omega)]; exact hlow k hk, by omega, by simp⟩
     intro T1 H1 n1
     rintro ⟨j, hj, rfl, hlow, hnn, hjx⟩
     refine awp_reg zs [24, 25, 26, 35, 36, 37, 38] fun K hK => ?_
     try simp only [go_sem, seval]
     refine hK _ _ _ ?_; clear hK K
     refine awp_seq_k fun K6 hK6 => ?_
     refine awp_cnd (fun hb => ?_) (fun hb => ?_)
     ·skip
      have hlt2 : j < x.cells.length := by have := of_decide_eq_true hb; omega
      rw [all_drop_succ _ _ hlt2] at hjx
      have hn2 : nth (x.cells.map celAV) j = celAV (x.cells.getD j default) := nth_map celAV x.cells j hlt2
      generalize x.cells.getD j default = y at *
      refine awp_skip ?_
      try simp only [go_sem, seval]
      refine hK6 _ _ _ ?_
      first | clear hK6 K6 | skip
      refine awp_seq_k fun K7 hK7 => ?_
      refine awp_block ?_
      refine awp_reg zs [6, 24, 25, 26, 35, 36, 37] fun K hK => ?_
      try simp only [go_sem, seval, List.length_map, hcz, hcg, hcm, Int.toNat_natCast, hn2]
      repeat refine peel ?_
      refine hK _ _ _ ?_; clear hK K
      refine awp_reg zs [24, 25, 26, 35, 36, 37, 43] fun K hK => ?_
      try simp only [go_sem, seval, hcz, hcg]
      refine callK_use Tryz.func133 rfl rfl rfl ((c_order_shown y _ _)) ?_
      try simp only [go_sem, seval]
      refine hK _ _ _ ?_; clear hK K
      refine awp_cnd (fun hb => ?_) (fun hb => ?_)
      ·skip
       have h9 : shownB y = false := by simpa using hb
       have hs : soundB r = false := by unfold soundB; rw [hix]; simp [rowOK, hjx, h9]
       refine awp_reg zs [2] fun K hK => ?_
       try simp only [go_sem, seval]
       refine hK _ _ _ ?_; clear hK K
       refine awp_ret ?_
       try simp only [go_sem, seval]
       refine ⟨_, rfl, fun k hk => ?_, Frz.eq (by rw [hs]) trivial⟩
       (repeat rw [if_neg (by omega)])
       try first | rfl | exact hlow k hk
      ·skip
       have h9 : shownB y = true := by simpa using hb
       rw [h9, Bool.true_and] at hjx
       refine awp_skip ?_
       try simp only [go_sem, seval]
       refine hK7 _ _ _ ?_
       first | clear hK7 K7 | skip
       refine awp_reg1 zs [24, 25, 26, 35, 36, 37] fun K hK => ?_
       try simp only [go_sem, seval]
       refine hK _ _ _ ?_; clear hK K
       try simp only [go_sem, seval]
       refine ⟨⟨j + 1, by omega, by rw [w1 (by omega)], fun k hk => ?_, by omega, hjx⟩, by rw [w1 (by omega)]; simp; omega⟩
       (repeat rw [if_neg (by omega)])
       exact hlow k hk
     ·skip
      have hall : rowOK x = true := by have : j = x.cells.length := (by have := of_decide_eq_false hb; omega); simp [rowOK, hro, hjx, this]
      rw [hall, Bool.true_and] at hix
      refine awp_exit ?_
      try simp only [go_sem, seval]
      refine hK4 _ _ _ ?_
      first | clear hK4 K4 | skip
      refine awp_reg1 zs [24, 25, 26] fun K hK => ?_
      try simp only [go_sem, seval]
      refine hK _ _ _ ?_; clear hK K
      try simp only [go_sem, seval]
      refine ⟨⟨i + 1, by omega, by rw [w1 (by omega)], hlow, by omega, hix⟩, by rw [w1 (by omega)]; simp; omega⟩
   ·skip
    have hs : soundB r = true := by have : i = r.rows.length := (by have := of_decide_eq_false hb; omega); simp [soundB, hh, hix, this]
    refine awp_exit ?_
    try simp only [go_sem, seval]
    refine hK2 _ _ _ ?_
    first | clear hK2 K2 | skip
    refine awp_reg zs [2] fun K hK => ?_
    try simp only [go_sem, seval]
    refine hK _ _ _ ?_; clear hK K
    refine awp_ret ?_
    try simp only [go_sem, seval]
    refine ⟨_, rfl, fun k hk => ?_, Frz.eq (by rw [hs]) trivial⟩
    (repeat rw [if_neg (by omega)])
    try first | rfl | exact hlow k hk
end Go.Proofs.YtifnhpmeoogedaaGreatDoor
namespace Go.Proofs.YtifnhpmeoogedaaGreatDoor
open Go Go.Sx Go.Rt Go.Proofs
set_option maxRecDepth 100000 in
set_option maxHeartbeats 3200000 in
theorem o_order_answer (r : RepE) (hs : soundB r = true) (hc : ∀ x ∈ r.rows, x.cells.length ≤ 1048576) (ht : r.token.length ≤ 1099511627776) (H : Heap) (n : Nat) :
    ACalls Tryz.prog 86 [repAV r] H n fun res H' n' => ∃ ver, res = .val (.osl (n + 2) ver 0 (repB r).length) ∧ H' (n + 2) = some (.arr ver 1 ((repB r).map byteAV)) ∧ n + 3 ≤ n' ∧ ∀ k, k < n → H' k = H k := by
  have r1 : (0 : Nat) = 0 := rfl
  have r4 := r1
  have r6 := r1
  have hw1 := r1
  obtain ⟨hl, hrw⟩ := soundB_le hs
  have hur : u64 (r.rows.length : Int) = r.rows.length := u64_nat _ (by omega)
  have hrz : ∀ x, (rowAV x).sz = 2 := fun _ => rfl
  have hrg : ∀ x, (rowAV x).isAgg = true := fun _ => rfl
  have hrm : ∀ x, (rowAV x).memOK = true := fun _ => rfl
  have hcz : ∀ x, (celAV x).sz = 4 := fun _ => rfl
  have hcg : ∀ x, (celAV x).isAgg = true := fun _ => rfl
  have hcm : ∀ x, (celAV x).memOK = true := fun _ => rfl
  refine acalls_of_awp Tryz.func86 rfl Tryz.ntmps86 (congrArg Array.toList Tryz.results86) (by simp) ?_
  simp only [go_sem]
  refine awp_reg zs [1] fun K hK => ?_
  try simp only [go_sem, seval, repAV, AV.memOK.eq_5]
  refine hK _ _ _ ?_; clear hK K
  refine awp_reg zs [1, 3] fun K hK => ?_
  try simp only [go_sem, seval, AV.memOK.eq_5]
  refine hK _ _ _ ?_; clear hK K
  refine awp_adopt_obj (n + 1) 1 (els' := [.agg [.osl (n + 2) 0 0 0]]) (Heap.put_same _ _ _) ⟨Adp.agg ⟨Adp.nilsl _, trivial⟩, trivial⟩ ?_
  refine awp_gen (fun H' n' => WS H n [(n, .arr 0 6 [repAV r])] (n + 1) (n + 2) (0) ([]) H' n') ⟨⟨⟨0, by simp [Heap.put], by simp [Heap.put]⟩, by omega, by omega, by omega, by simp⟩, fun p hp => by rw [List.mem_singleton.1 hp]; exact ⟨by simp [Heap.put, repAV, bys], by simp, by simp, by show n < n + 2 + 1; omega⟩, fun k hk => by simp only [Heap.put_get]; repeat rw [if_neg (by omega)], by omega, by omega⟩ fun H1 n1 hS => ?_
  have r1 := hS.get (n) (.arr 0 6 [repAV r]) (by simp)
  refine awp_reg zs [1, 3] fun K hK => ?_
  try simp only [go_sem, seval, r1, repAV]
  refine callK_useK (args' := [.loc (n + 1) 0 0 0 [], .int .i64 (r.err)]) Tryz.func114 rfl rfl rfl (c_order_writer_uint hS.w (r.err) (by omega)) ?_ ?_
  rotate_left
  · intro p H' n' h; cases h.1
  rintro rr G m hW9
  cases hW9.1
  have hS := hS.call hW9
  have r1 := hS.get (n) (.arr 0 6 [repAV r]) (by simp)
  clear hW9
  refine hK _ _ _ ?_; clear hK K
  refine awp_reg zs [1, 3] fun K hK => ?_
  try simp only [go_sem, seval, r1, repAV]
  refine callK_useK (args' := [.loc (n + 1) 0 0 0 [], .bool (r.held)]) Tryz.func117 rfl rfl rfl (c_order_writer_flag hS.w (r.held) (by omega)) ?_ ?_
  rotate_left
  · intro p H' n' h; cases h.1
  rintro rr G m hW9
  cases hW9.1
  have hS := hS.call hW9
  have r1 := hS.get (n) (.arr 0 6 [repAV r]) (by simp)
  clear hW9
  refine hK _ _ _ ?_; clear hK K
  refine awp_reg zs [1, 3] fun K hK => ?_
  try simp only [go_sem, seval, r1, repAV]
  refine callK_useK (args' := [.loc (n + 1) 0 0 0 [], .int .i64 (r.value)]) Tryz.func114 rfl rfl rfl (c_order_writer_uint hS.w (r.value) (by omega)) ?_ ?_
  rotate_left
  · intro p H' n' h; cases h.1
  rintro rr G m hW9
  cases hW9.1
  have hS := hS.call hW9
  have r1 := hS.get (n) (.arr 0 6 [repAV r]) (by simp)
  clear hW9
  refine hK _ _ _ ?_; clear hK K
  refine awp_reg zs [1, 3] fun K hK => ?_
  try simp only [go_sem, seval, r1, repAV, List.length_map]
  refine callK_useK (args' := [.loc (n + 1) 0 0 0 [], .int .i64 (r.rows.length)]) Tryz.func114 rfl rfl rfl (c_order_writer_uint hS.w (r.rows.length) (by omega)) ?_ ?_
  rotate_left
  · intro p H' n' h; cases h.1
  rintro rr G m hW9
  cases hW9.1
  have hS := hS.call hW9
  have r1 := hS.get (n) (.arr 0 6 [repAV r]) (by simp)
  clear hW9
  refine hK _ _ _ ?_; clear hK K
  refine awp_seq_k fun K1 hK1 => ?_
  refine awp_reg zs [1, 3, 30, 31, 32] fun K hK => ?_
  try simp only [go_sem, seval, r1, repAV, List.length_map]
  refine hK _ _ _ ?_; clear hK K
  refine awp_block ?_
  refine awp_loop (fun T' H' n' => ∃ i : Nat, i ≤ r.rows.length ∧ T' = tl [(1, .loc n 0 0 0 []), (3, .loc (n + 1) 0 0 0 []), (30, .sl 2 (r.rows.map rowAV)), (31, .int .i64 r.rows.length), (32, .int .i64 i)] ∧ WS H n [(n, .arr 0 6 [repAV r])] (n + 1) (n + 2) (100 + 5000000000 * i) (uintB (u64 r.err) ++ flagB r.held ++ uintB (u64 r.value) ++ uintB r.rows.length ++ (r.rows.take i).flatMap rowB) H' n') (fun T' _ _ => r.rows.length - iv (T' 32)) ?_ ?_
  ·skip
   exact ⟨0, by omega, rfl, (hS.up (by omega)).eq (by simp [hur])⟩
  intro T1 H1 n1
  rintro ⟨i, hi, rfl, hS⟩
  refine awp_reg zs [1, 3, 30, 31, 32, 33] fun K hK => ?_
  try simp only [go_sem, seval, repAV]
  refine hK _ _ _ ?_; clear hK K
  refine awp_seq_k fun K2 hK2 => ?_
  refine awp_cnd (fun hb => ?_) (fun hb => ?_)
  ·skip
   have hlt : i < r.rows.length := by simpa using hb
   have hfl := flatMap_take rowB r.rows hlt
   have hmem := getD_mem r.rows hlt
   have hnth : nth (r.rows.map rowAV) i = rowAV (r.rows.getD i default) := nth_map rowAV r.rows i hlt
   generalize r.rows.getD i default = x at *
   obtain ⟨hx1, hx2⟩ := hrw x hmem
   have hxc := hc x hmem
   have huc : u64 (x.cells.length : Int) = x.cells.length := u64_nat _ (by omega)
   have r1 := hS.get (n) (.arr 0 6 [repAV r]) (by simp)
   refine awp_skip ?_
   try simp only [go_sem, seval, repAV]
   refine hK2 _ _ _ ?_
   first | clear hK2 K2 | skip
   refine awp_seq_k fun K3 hK3 => ?_
   refine awp_block ?_
   refine awp_reg zs [1, 3, 5, 30, 31, 32] fun K hK => ?_
   try simp only [go_sem, seval, repAV, List.length_map, hrz, hrg, hrm, Int.toNat_natCast, hnth]
   repeat refine peel ?_
   refine hK _ _ _ ?_; clear hK K
   refine awp_gen (fun H' n' => WS H n [(n1, .arr 0 2 [rowAV x]), (n, .arr 0 6 [repAV r])] (n + 1) (n + 2) (100 + 5000000000 * i) (uintB (u64 r.err) ++ flagB r.held ++ uintB (u64 r.value) ++ uintB r.rows.length ++ (r.rows.take i).flatMap rowB) H' n') ((hS.on (fun k hk => by simp only [Heap.put_get]; repeat rw [if_neg (by omega)]) (by omega)).add (by simp [Heap.put]) (by have := hS.w.lw; omega) (by have := hS.w.lb; omega) (by omega)) fun H1 n1' hS => ?_
   generalize n1 = kx at *
   have r1 := hS.get (n) (.arr 0 6 [repAV r]) (by simp)
   have r4 := hS.get (kx) (.arr 0 2 [rowAV x]) (by simp)
   refine awp_reg zs [1, 3, 5, 30, 31, 32] fun K hK => ?_
   try simp only [go_sem, seval, r4, repAV, rowAV]
   refine callK_useK (args' := [.loc (n + 1) 0 0 0 [], bys (x.row)]) Tryz.func115 rfl rfl rfl (c_order_writer_bytes hS.w (x.row) (by omega) (by omega)) ?_ ?_
   rotate_left
   · intro p H' n' h; cases h.1
   rintro rr G m hW9
   cases hW9.1
   have hS := hS.call hW9
   have r1 := hS.get (n) (.arr 0 6 [repAV r]) (by simp)
   have r4 := hS.get (kx) (.arr 0 2 [rowAV x]) (by simp)
   clear hW9
   refine hK _ _ _ ?_; clear hK K
   refine awp_reg zs [1, 3, 5, 30, 31, 32] fun K hK => ?_
   try simp only [go_sem, seval, r4, repAV, List.length_map, rowAV]
   refine callK_useK (args' := [.loc (n + 1) 0 0 0 [], .int .i64 (x.cells.length)]) Tryz.func114 rfl rfl rfl (c_order_writer_uint hS.w (x.cells.length) (by omega)) ?_ ?_
   rotate_left
   · intro p H' n' h; cases h.1
   rintro rr G m hW9
   cases hW9.1
   have hS := hS.call hW9
   have r1 := hS.get (n) (.arr 0 6 [repAV r]) (by simp)
   have r4 := hS.get (kx) (.arr 0 2 [rowAV x]) (by simp)
   clear hW9
   refine hK _ _ _ ?_; clear hK K
   refine awp_reg zs [1, 3, 30, 31, 32, 46, 47, 48] fun K hK => ?_
   try simp only [go_sem, seval, r4, repAV, List.length_map, rowAV]
   refine hK _ _ _ ?_; clear hK K
   refine awp_block ?_
   refine awp_loop (fun T' H' n' => ∃ j : Nat, j ≤ x.cells.length ∧ T' = tl [(1, .loc n 0 0 0 []), (3, .loc (n + 1) 0 0 0 []), (30, .sl 2 (r.rows.map rowAV)), (31, .int .i64 r.rows.length), (32, .int .i64 i), (46, .sl 4 (x.cells.map celAV)), (47, .int .i64 x.cells.length), (48, .int .i64 j)] ∧ WS H n [(kx, .arr 0 2 [rowAV x]), (n, .arr 0 6 [repAV r])] (n + 1) (n + 2) (500 + 5000000000 * i + 4400 * j) (uintB (u64 r.err) ++ flagB r.held ++ uintB (u64 r.value) ++ uintB r.rows.length ++ (r.rows.take i).flatMap rowB ++ bytesB x.row ++ uintB x.cells.length ++ (x.cells.take j).flatMap celB) H' n') (fun T' _ _ => x.cells.length - iv (T' 48)) ?_ ?_
   ·skip
    exact ⟨0, by omega, rfl, (hS.up (by omega)).eq (by simp [huc])⟩
   intro T1 H1 n1
   rintro ⟨j, hj, rfl, hS⟩
   refine awp_reg zs [1, 3, 30, 31, 32, 46, 47, 48, 49] fun K hK => ?_
   try simp only [go_sem, seval, repAV]
   refine hK _ _ _ ?_; clear hK K
   refine awp_seq_k fun K4 hK4 => ?_
   refine awp_cnd (fun hb => ?_) (fun hb => ?_)
   ·skip
    have hlt2 : j < x.cells.length := by simpa using hb
    have hfl2 := flatMap_take celB x.cells hlt2
    have hmem2 := getD_mem x.cells hlt2
    have hnth2 : nth (x.cells.map celAV) j = celAV (x.cells.getD j default) := nth_map celAV x.cells j hlt2
    generalize x.cells.getD j default = y at *
    obtain ⟨hy1, hy2⟩ := hx2 y hmem2
    have r1 := hS.get (n) (.arr 0 6 [repAV r]) (by simp)
    have r4 := hS.get (kx) (.arr 0 2 [rowAV x]) (by simp)
    refine awp_skip ?_
    try simp only [go_sem, seval, repAV]
    refine hK4 _ _ _ ?_
    first | clear hK4 K4 | skip
    refine awp_seq_k fun K5 hK5 => ?_
    refine awp_block ?_
    refine awp_reg zs [1, 3, 7, 30, 31, 32, 46, 47, 48] fun K hK => ?_
    try simp only [go_sem, seval, repAV, List.length_map, hcz, hcg, hcm, Int.toNat_natCast, hnth2]
    repeat refine peel ?_
    refine hK _ _ _ ?_; clear hK K
    refine awp_gen (fun H' n' => WS H n [(n1, .arr 0 4 [celAV y]), (kx, .arr 0 2 [rowAV x]), (n, .arr 0 6 [repAV r])] (n + 1) (n + 2) (500 + 5000000000 * i + 4400 * j) (uintB (u64 r.err) ++ flagB r.held ++ uintB (u64 r.value) ++ uintB r.rows.length ++ (r.rows.take i).flatMap rowB ++ bytesB x.row ++ uintB x.cells.length ++ (x.cells.take j).flatMap celB) H' n') ((hS.on (fun k hk => by simp only [Heap.put_get]; repeat rw [if_neg (by omega)]) (by omega)).add (by simp [Heap.put]) (by have := hS.w.lw; omega) (by have := hS.w.lb; omega) (by omega)) fun H1 n1' hS => ?_
    generalize n1 = ky at *
    have r1 := hS.get (n) (.arr 0 6 [repAV r]) (by simp)
    have r4 := hS.get (kx) (.arr 0 2 [rowAV x]) (by simp)
    have r6 := hS.get (ky) (.arr 0 4 [celAV y]) (by simp)
    refine awp_reg zs [1, 3, 7, 30, 31, 32, 46, 47, 48] fun K hK => ?_
    try simp only [go_sem, seval, r6, repAV, celAV]
    refine callK_useK (args' := [.loc (n + 1) 0 0 0 [], .int .i64 (y.fam)]) Tryz.func113 rfl rfl rfl (c_order_writer_byte hS.w (y.fam) (by omega)) ?_ ?_
    rotate_left
    · intro p H' n' h; cases h.1
    rintro rr G m hW9
    cases hW9.1
    have hS := hS.call hW9
    have r1 := hS.get (n) (.arr 0 6 [repAV r]) (by simp)
    have r4 := hS.get (kx) (.arr 0 2 [rowAV x]) (by simp)
    have r6 := hS.get (ky) (.arr 0 4 [celAV y]) (by simp)
    clear hW9
    refine hK _ _ _ ?_; clear hK K
    refine awp_reg zs [1, 3, 7, 30, 31, 32, 46, 47, 48] fun K hK => ?_
    try simp only [go_sem, seval, r6, repAV, celAV]
    refine callK_useK (args' := [.loc (n + 1) 0 0 0 [], bys (y.qual)]) Tryz.func115 rfl rfl rfl (c_order_writer_bytes hS.w (y.qual) (by omega) (by omega)) ?_ ?_
    rotate_left
    · intro p H' n' h; cases h.1
    rintro rr G m hW9
    cases hW9.1
    have hS := hS.call hW9
    have r1 := hS.get (n) (.arr 0 6 [repAV r]) (by simp)
    have r4 := hS.get (kx) (.arr 0 2 [rowAV x]) (by simp)
    have r6 := hS.get (ky) (.arr 0 4 [celAV y]) (by simp)
    clear hW9
    refine hK _ _ _ ?_; clear hK K
    refine awp_reg zs [1, 3, 7, 30, 31, 32, 46, 47, 48] fun K hK => ?_
    try simp only [go_sem, seval, r6, repAV, celAV]
    refine callK_useK (args' := [.loc (n + 1) 0 0 0 [], .int .i64 (y.ts)]) Tryz.func114 rfl rfl rfl (c_order_writer_uint hS.w (y.ts) (by omega)) ?_ ?_
    rotate_left
    · intro p H' n' h; cases h.1
    rintro rr G m hW9
    cases hW9.1
    have hS := hS.call hW9
    have r1 := hS.get (n) (.arr 0 6 [repAV r]) (by simp)
    have r4 := hS.get (kx) (.arr 0 2 [rowAV x]) (by simp)
    have r6 := hS.get (ky) (.arr 0 4 [celAV y]) (by simp)
    clear hW9
    refine hK _ _ _ ?_; clear hK K
    refine awp_reg1 zs [1, 3, 30, 31, 32, 46, 47, 48] fun K hK => ?_
    try simp only [go_sem, seval, r6, repAV, celAV]
    refine callK_useK (args' := [.loc (n + 1) 0 0 0 [], bys (y.value)]) Tryz.func115 rfl rfl rfl (c_order_writer_bytes hS.w (y.value) (by omega) (by omega)) ?_ ?_
    rotate_left
    · intro p H' n' h; cases h.1
    rintro rr G m hW9
    cases hW9.1
    have hS := hS.call hW9
    have r1 := hS.get (n) (.arr 0 6 [repAV r]) (by simp)
    have r4 := hS.get (kx) (.arr 0 2 [rowAV x]) (by simp)
    have r6 := hS.get (ky) (.arr 0 4 [celAV y]) (by simp)
    clear hW9
    refine hK _ _ _ ?_; clear hK K
    try simp only [go_sem, seval, repAV]
    refine hK5 _ _ _ ?_
    first | clear hK5 K5 | skip
    refine awp_reg1 zs [1, 3, 30, 31, 32, 46, 47, 48] fun K hK => ?_
    try simp only [go_sem, seval, repAV]
    refine hK _ _ _ ?_; clear hK K
    try simp only [go_sem, seval, repAV]
    refine ⟨⟨j + 1, by omega, by rw [w1 (by omega)], (hS.drop.up (by omega)).eq (by rw [hfl2]; simp [celB])⟩, by rw [w1 (by omega)]; simp; omega⟩
   ·skip
    have hge : j = x.cells.length := by simp at hb; omega
    have hS := hS.eq (by rw [flatMap_all celB x.cells (by omega)])
    refine awp_exit ?_
    try simp only [go_sem, seval, repAV]
    refine hK3 _ _ _ ?_
    first | clear hK3 K3 | skip
    refine awp_reg1 zs [1, 3, 30, 31, 32] fun K hK => ?_
    try simp only [go_sem, seval, repAV]
    refine hK _ _ _ ?_; clear hK K
    try simp only [go_sem, seval, repAV]
    refine ⟨⟨i + 1, by omega, by rw [w1 (by omega)], (hS.drop.up (by omega)).eq (by rw [hfl]; simp [rowB])⟩, by rw [w1 (by omega)]; simp; omega⟩
  ·skip
   have hge : i = r.rows.length := by simp at hb; omega
   have hS := hS.eq (by rw [flatMap_all rowB r.rows (by omega)])
   have r1 := hS.get (n) (.arr 0 6 [repAV r]) (by simp)
   refine awp_exit ?_
   try simp only [go_sem, seval, repAV]
   refine hK1 _ _ _ ?_
   first | clear hK1 K1 | skip
   refine awp_reg zs [1, 3] fun K hK => ?_
   try simp only [go_sem, seval, r1, repAV]
   refine callK_useK (args' := [.loc (n + 1) 0 0 0 [], bys (r.token)]) Tryz.func115 rfl rfl rfl (c_order_writer_bytes hS.w (r.token) (by omega) (by omega)) ?_ ?_
   rotate_left
   · intro p H' n' h; cases h.1
   rintro rr G m hW9
   cases hW9.1
   have hS := hS.call hW9
   have r1 := hS.get (n) (.arr 0 6 [repAV r]) (by simp)
   clear hW9
   refine hK _ _ _ ?_; clear hK K
   refine awp_reg zs [3] fun K hK => ?_
   try simp only [go_sem, seval, r1, repAV]
   refine callK_useK (args' := [.loc (n + 1) 0 0 0 [], .bool (r.done)]) Tryz.func117 rfl rfl rfl (c_order_writer_flag hS.w (r.done) (by omega)) ?_ ?_
   rotate_left
   · intro p H' n' h; cases h.1
   rintro rr G m hW9
   cases hW9.1
   have hS := hS.call hW9
   have r1 := hS.get (n) (.arr 0 6 [repAV r]) (by simp)
   clear hW9
   refine hK _ _ _ ?_; clear hK K
   have hS := hS.eq (bs' := repB r) (by simp [repB])
   obtain ⟨ver, hw1, hw2⟩ := hS.out
   refine awp_reg zs [2] fun K hK => ?_
   try simp only [go_sem, seval, hw1]
   refine hK _ _ _ ?_; clear hK K
   refine awp_ret ?_
   try simp only [go_sem, seval]
   exact ⟨ver, rfl, hw2, by have := hS.w.lb; omega, hS.low⟩
end Go.Proofs.YtifnhpmeoogedaaGreatDoor
namespace Go.Proofs.YtifnhpmeoogedaaGreatDoor
open Go Go.Sx Go.Rt Go.Proofs
theorem c_order_answer (r : RepE) (hs : soundB r = true) (hc : ∀ x ∈ r.rows, x.cells.length ≤ 1048576) (ht : r.token.length ≤ 1099511627776) (H : Heap) (n : Nat) : Ret Tryz.prog 86 [repAV r] H n (bys (repB r)) H n :=
  Ret.fin ((o_order_answer r hs hc ht H n).mono fun res H1 n1 ⟨ver, hr, hk, hn, hlow⟩ => ⟨_, hr, hlow, .osl hk (by omega) (by simp) (by
    rw [List.drop_zero, List.take_of_length_le (by simp)]; exact frzL_kl _ (kls0_bytes _ n))⟩)
theorem c_order_EncodeReply (r : RepE) (hr : r.rows.length ≤ 1048576) (hc : ∀ x ∈ r.rows, x.cells.length ≤ 1048576) (ht : r.token.length ≤ 1099511627776) (H : Heap) (n : Nat) : Ret Tryz.prog 33 [repAV r] H n (.tup [bys (encR r).1, .int .i64 (encR r).2]) H n := by
  have hrs : (repAV r).sz = 6 := repAV_sz r
  have hrg : (repAV r).isAgg = true := rfl
  have hrm : (repAV r).memOK = true := rfl
  refine Ret.fin ?_
  refine acalls_of_awp Tryz.func33 rfl Tryz.ntmps33 (congrArg Array.toList Tryz.results33) (by simp) ?_
  simp only [go_sem]
  refine awp_reg zs [1] fun K hK => ?_
  try simp only [go_sem, seval, hrs, hrm]
  refine hK _ _ _ ?_; clear hK K
  refine awp_seq_k fun K1 hK1 => ?_
  refine awp_reg zs [1, 7] fun K hK => ?_
  try simp only [go_sem, seval, hrs, hrg]
  refine callK_use Tryz.func85 rfl rfl rfl ((c_order_sound r hr hc _ _)) ?_
  try simp only [go_sem, seval]
  refine hK _ _ _ ?_; clear hK K
  refine awp_cnd (fun hb => ?_) (fun hb => ?_)
  ·skip
   have hs : soundB r = false := by simpa using hb
   have hd : encR r = ([], 147) := by unfold encR; rw [if_pos hs]
   refine awp_reg zs [2, 3] fun K hK => ?_
   try simp only [go_sem, seval]
   refine hK _ _ _ ?_; clear hK K
   refine awp_ret ?_
   try simp only [go_sem, seval]
   refine ⟨_, rfl, fun k hk => by rw [if_neg (by omega)], ?_⟩
   rw [hd]; first | exact .tup (.cons .nilsl (.cons (.kl trivial) .nil)) | exact .tup (.cons (.kl (kls_bytes _ _)) (.cons (.kl trivial) .nil))
  ·skip
   have hs : soundB r = true := by simpa using hb
   refine awp_skip ?_
   try simp only [go_sem, seval]
   refine hK1 _ _ _ ?_
   first | clear hK1 K1 | skip
   refine awp_reg zs [4] fun K hK => ?_
   try simp only [go_sem, seval, hrs, hrg]
   refine callK_use Tryz.func86 rfl rfl rfl ((c_order_answer r hs hc ht _ _)) ?_
   try simp only [go_sem, seval]
   refine hK _ _ _ ?_; clear hK K
   refine awp_seq_k fun K2 hK2 => ?_
   refine awp_reg zs [4, 12] fun K hK => ?_
   try simp only [go_sem, seval, List.length_map]
   refine hK _ _ _ ?_; clear hK K
   refine awp_cnd (fun hb => ?_) (fun hb => ?_)
   ·skip
    have hd : encR r = ([], 2) := by have h9 : 1048576 < (repB r).length := (by simp at hb; omega); unfold encR; rw [hs, if_neg (by simp), if_pos h9]
    refine awp_reg zs [2, 3] fun K hK => ?_
    try simp only [go_sem, seval]
    refine hK _ _ _ ?_; clear hK K
    refine awp_ret ?_
    try simp only [go_sem, seval]
    refine ⟨_, rfl, fun k hk => by rw [if_neg (by omega)], ?_⟩
    rw [hd]; first | exact .tup (.cons .nilsl (.cons (.kl trivial) .nil)) | exact .tup (.cons (.kl (kls_bytes _ _)) (.cons (.kl trivial) .nil))
   ·skip
    have hd : encR r = (repB r, 0) := by have h9 : ¬ 1048576 < (repB r).length := (by simp at hb; omega); unfold encR; rw [hs, if_neg (by simp), if_neg h9]
    refine awp_skip ?_
    try simp only [go_sem, seval]
    refine hK2 _ _ _ ?_
    first | clear hK2 K2 | skip
    refine awp_reg zs [2, 3] fun K hK => ?_
    try simp only [go_sem, seval]
    refine callK_use Tryz.func64 rfl rfl rfl ((c_slices_Clip (repB r) _ _)) ?_
    try simp only [go_sem, seval]
    refine hK _ _ _ ?_; clear hK K
    refine awp_ret ?_
    try simp only [go_sem, seval]
    refine ⟨_, rfl, fun k hk => by rw [if_neg (by omega)], ?_⟩
    rw [hd]; first | exact .tup (.cons .nilsl (.cons (.kl trivial) .nil)) | exact .tup (.cons (.kl (kls_bytes _ _)) (.cons (.kl trivial) .nil))
end Go.Proofs.YtifnhpmeoogedaaGreatDoor
namespace Go.Proofs.YtifnhpmeoogedaaGreatDoor
open Go Go.Sx Go.Rt Go.Proofs
set_option maxRecDepth 100000 in
set_option maxHeartbeats 3200000 in
theorem c_order_row {b : List UInt8} {p kr : Nat} (hb9 : b.length ≤ 1048576) (hp : p ≤ b.length) {H : Heap} {n : Nat} (hk : kr < n) (hR : H kr = some (rdO b p)) : ACalls Tryz.prog 94 [.loc kr 0 0 0 []] H n (RdK torn kr b H n (rav rowAV (rdRow b p))) := by
  have hb9' := hb9
  replace hb9 : b.length ≤ 1099511627776 := by omega
  have hkn : (n = kr) = False := by simp; omega
  have hkn' : (kr = n) = False := by simp; omega
  have hkn1 : (n + 1 = kr) = False := by simp; omega
  have hkn1' : (kr = n + 1) = False := by simp; omega
  have hkn2 : (n + 2 = kr) = False := by simp; omega
  have hkn2' : (kr = n + 2) = False := by simp; omega
  have k1 := hR
  have k2 := hR
  have k4 := hR
  have k5 := hR
  refine RdK.fin hk ?_
  refine acalls_of_awp Tryz.func94 rfl Tryz.ntmps94 (congrArg Array.toList Tryz.results94) (by simp) ?_
  simp only [go_sem]
  refine awp_reg zs [0, 2] fun K hK => ?_
  try simp only [go_sem, seval]
  refine hK _ _ _ ?_; clear hK K
  refine awp_reg zs [0, 2, 3] fun K hK => ?_
  try simp only [go_sem, seval, AV.memOK.eq_5]
  refine callK_useK (args' := [.loc kr 0 0 0 []]) Tryz.func71 rfl rfl rfl (c_order_reader_bytes hb9 hp (by simp [Heap.put, hkn']; exact hR)) ?_ ?_
  rotate_left
  · intro e9 H9 n9 h9
    obtain ⟨h1, rfl, h2, h3⟩ := h9.die
    refine .inr ⟨by unfold rdRow; simp [h1, rav], rfl, by omega, fun k hk hkr => (h3 k (by omega) hkr).trans ?_⟩
    first | done | (simp only [Heap.put_get]; (repeat rw [if_neg (by omega)]); done)
  rintro rr H9 n9 h9
  obtain ⟨rw9, q1, g1, rfl, rfl, rfl⟩ := h9.get
  have hq1 := rdBytes_le g1
  try simp only [go_sem, seval, AV.memOK.eq_5, bys, Nat.add_assoc]
  repeat refine peel ?_
  refine hK _ _ _ ?_; clear hK K
  refine awp_seq_k fun K1 hK1 => ?_
  refine awp_reg zs [0, 2, 3, 8, 9] fun K hK => ?_
  try simp only [go_sem, seval]
  refine callK_useK (args' := [.loc kr 0 0 0 []]) Tryz.func93 rfl rfl rfl (c_order_reader_count hb9 hq1.1 (by simp [Heap.put, hkn, hkn', hkn1, hkn1', hkn2, hkn2', k1])) ?_ ?_
  rotate_left
  · intro e9 H9 n9 h9
    obtain ⟨h1, rfl, h2, h3⟩ := h9.die
    refine .inr ⟨by unfold rdRow; simp [g1, rdList, h1, rav], rfl, by omega, fun k hk hkr => (h3 k (by omega) hkr).trans ?_⟩
    first | done | (simp only [Heap.put_get]; (repeat rw [if_neg (by omega)]); done)
  rintro rr H9 n9 h9
  obtain ⟨cnt, q2, g2, rfl, rfl, rfl⟩ := h9.get
  have hq2 := rdCount_le g2
  refine hK _ _ _ ?_; clear hK K
  refine awp_block ?_
  refine awp_adopt_obj (n + 1) 4 (ver := 0) (e := 2) (els := [.agg [bys rw9, .nilsl]]) (els' := [.agg [bys rw9, .osl (n + 2) 0 0 0]]) (by simp [Heap.put, hkn1, bys]) ⟨.agg ⟨.refl _ _, .nilsl _, trivial⟩, trivial⟩ ?_
  refine awp_loop (fun T' H' n' => ∃ (i q ver : Nat) (acc : List CelE), i ≤ cnt ∧ acc.length = i ∧ q ≤ b.length ∧ T' = tl [(0, .loc kr 0 0 0 []), (2, .loc n 0 0 0 []), (3, .loc (n + 1) 0 0 0 []), (8, .int .i64 cnt), (9, .int .i64 i)] ∧ H' kr = some (rdO b q) ∧ H' (n + 1) = some (.arr 0 2 [.agg [bys rw9, .osl (n + 2) ver 0 acc.length]]) ∧ H' (n + 2) = some (.arr ver 4 (acc.map celAV)) ∧ H' n = some (.arr 0 2 [.agg [.nilsl, .nilsl]]) ∧ (∀ k, k < n → k ≠ kr → H' k = H k) ∧ n' = n + 3 ∧ rdMany rdCel b (cnt - i) q acc = rdList rdCel b q1) (fun T' _ _ => cnt - iv (T' 9)) ?_ ?_
  ·skip
   refine ⟨0, q2, 0, [], Nat.zero_le _, rfl, by omega, rfl, by simp [Heap.put, hkn', hkn1', hkn2'], by simp [Heap.put], by simp [Heap.put], by simp [Heap.put, hkn], fun k hk2 hkr => by (simp only [Heap.put_get]; (repeat rw [if_neg (by omega)])), rfl, ?_⟩
   unfold rdList; rw [g2]; rfl
  intro T1 H1 n1
  rintro ⟨i, q, ver, acc, hi, hal, hq, rfl, k1, k2, k4, k5, k3, rfl, hix⟩
  refine awp_reg zs [0, 2, 3, 8, 9, 10] fun K hK => ?_
  try simp only [go_sem, seval, bys]
  refine hK _ _ _ ?_; clear hK K
  refine awp_seq_k fun K2 hK2 => ?_
  refine awp_cnd (fun hb => ?_) (fun hb => ?_)
  ·skip
   have hlt : i < cnt := by have := of_decide_eq_true hb; omega
   refine awp_skip ?_
   try simp only [go_sem, seval, bys]
   refine hK2 _ _ _ ?_
   first | clear hK2 K2 | skip
   refine awp_seq_k fun K3 hK3 => ?_
   refine awp_block ?_
   refine awp_drp1 rfl zs [0, 2, 3, 8, 9] [.q, .q, .m, .w [0, 1], .m, .w [0, 1], .m, .w [0, 1], .m, .w [0, 1], .q, .q, .w [], .q, .w []] [0, 1, 2, 4, 6, 8, 3, 5, 7, 9, 10, 11, 12, 13, 14] [0, 1, 2, 6, 3, 7, 4, 8, 5, 9, 10, 11, 12, 13, 14] (by kernel_rfl) (fun _ _ _ _ _ h => h) fun K hK => ?_
   try simp only [go_sem, seval, k2, bys]
   repeat (first | (refine And.intro ?_ ?_; · first | exact ⟨rfl, by simp [AV.sz, AV.szs, AV.memOK]⟩ | exact ⟨by omega, .inr trivial, by omega, by omega⟩) | refine peel ?_)
   refine callK_useK (args' := [.loc kr 0 0 0 []]) Tryz.func67 rfl rfl rfl (c_order_reader_byte hb9 hq k1) ?_ ?_
   rotate_left
   · intro e9 H9 n9 h9
     obtain ⟨h1, rfl, h2, h3⟩ := h9.die
     have hno : rdCel b q = none := by unfold rdCel; simp [h1]
     rw [rdMany_succ rdCel b hlt, hno] at hix
     refine .inr ⟨by unfold rdRow; rw [g1, Option.bind_some, ← hix]; rfl, rfl, by omega, fun k hk hkr => (h3 k (by omega) hkr).trans ?_⟩
     first | exact k3 k hk hkr | (simp only [Heap.put_get]; (repeat rw [if_neg (by omega)]); exact k3 k hk hkr)
   rintro rr H9 n9 h9
   obtain ⟨x1, qa, ga, rfl, rfl, rfl⟩ := h9.get
   have hqa := rdByte_le ga
   try simp only [go_sem, seval, k2, hkn1, AV.memOK.eq_5, bys]
   repeat (first | (refine And.intro ?_ ?_; · first | exact ⟨rfl, by simp [AV.sz, AV.szs, AV.memOK]⟩ | exact ⟨by omega, .inr trivial, by omega, by omega⟩) | refine peel ?_)
   refine callK_useK (args' := [.loc kr 0 0 0 []]) Tryz.func71 rfl rfl rfl (c_order_reader_bytes hb9 hqa.1 (Heap.put_same _ _ _)) ?_ ?_
   rotate_left
   · intro e9 H9 n9 h9
     obtain ⟨h1, rfl, h2, h3⟩ := h9.die
     have hno : rdCel b q = none := by unfold rdCel; simp [ga, h1]
     rw [rdMany_succ rdCel b hlt, hno] at hix
     refine .inr ⟨by unfold rdRow; rw [g1, Option.bind_some, ← hix]; rfl, rfl, by omega, fun k hk hkr => (h3 k (by omega) hkr).trans ?_⟩
     first | exact k3 k hk hkr | (simp only [Heap.put_get]; (repeat rw [if_neg (by omega)]); exact k3 k hk hkr)
   rintro rr H9 n9 h9
   obtain ⟨x2, qb, gb, rfl, rfl, rfl⟩ := h9.get
   have hqb := rdBytes_le gb
   try simp only [go_sem, seval, k2, hkn1, AV.memOK.eq_5, bys]
   repeat (first | (refine And.intro ?_ ?_; · first | exact ⟨rfl, by simp [AV.sz, AV.szs, AV.memOK]⟩ | exact ⟨by omega, .inr trivial, by omega, by omega⟩) | refine peel ?_)
   refine callK_useK (args' := [.loc kr 0 0 0 []]) Tryz.func69 rfl rfl rfl (c_order_reader_uint hb9 hqb.1 (Heap.put_same _ _ _)) ?_ ?_
   rotate_left
   · intro e9 H9 n9 h9
     obtain ⟨h1, rfl, h2, h3⟩ := h9.die
     have hno : rdCel b q = none := by unfold rdCel; simp [ga, gb, h1]
     rw [rdMany_succ rdCel b hlt, hno] at hix
     refine .inr ⟨by unfold rdRow; rw [g1, Option.bind_some, ← hix]; rfl, rfl, by omega, fun k hk hkr => (h3 k (by omega) hkr).trans ?_⟩
     first | exact k3 k hk hkr | (simp only [Heap.put_get]; (repeat rw [if_neg (by omega)]); exact k3 k hk hkr)
   rintro rr H9 n9 h9
   obtain ⟨x3, qc, gc, rfl, rfl, rfl⟩ := h9.get
   have hqc := rdUint_le gc
   try simp only [go_sem, seval, k2, hkn1, AV.memOK.eq_5, bys]
   repeat (first | (refine And.intro ?_ ?_; · first | exact ⟨rfl, by simp [AV.sz, AV.szs, AV.memOK]⟩ | exact ⟨by omega, .inr trivial, by omega, by omega⟩) | refine peel ?_)
   refine callK_useK (args' := [.loc kr 0 0 0 []]) Tryz.func71 rfl rfl rfl (c_order_reader_bytes hb9 hqc.1 (Heap.put_same _ _ _)) ?_ ?_
   rotate_left
   · intro e9 H9 n9 h9
     obtain ⟨h1, rfl, h2, h3⟩ := h9.die
     have hno : rdCel b q = none := by unfold rdCel; simp [ga, gb, gc, h1]
     rw [rdMany_succ rdCel b hlt, hno] at hix
     refine .inr ⟨by unfold rdRow; rw [g1, Option.bind_some, ← hix]; rfl, rfl, by omega, fun k hk hkr => (h3 k (by omega) hkr).trans ?_⟩
     first | exact k3 k hk hkr | (simp only [Heap.put_get]; (repeat rw [if_neg (by omega)]); exact k3 k hk hkr)
   rintro rr H9 n9 h9
   obtain ⟨x4, qd, gd, rfl, rfl, rfl⟩ := h9.get
   have hqd := rdBytes_le gd
   try simp only [go_sem, seval, k2, k4, hkn1, hkn2, List.length_map, AV.memOK.eq_5, bys]
   repeat (first | (refine And.intro ?_ ?_; · first | exact ⟨rfl, by simp [AV.sz, AV.szs, AV.memOK]⟩ | exact ⟨by omega, .inr trivial, by omega, by omega⟩) | refine peel ?_)
   refine hK _ _ _ ?_; clear hK K
   try simp only [go_sem, seval, bys]
   refine hK3 _ _ _ ?_
   first | clear hK3 K3 | skip
   refine awp_reg1 zs [0, 2, 3, 8, 9] fun K hK => ?_
   try simp only [go_sem, seval, bys]
   refine hK _ _ _ ?_; clear hK K
   try simp only [go_sem, seval, k5, hkn, hkn1', hkn2', bys]
   refine ⟨⟨i + 1, qd, ver + 1, acc ++ [⟨x1, x2, x3, x4⟩], by omega, by simp [hal], hqd.1, by rw [w1 (by omega)], by simp [Heap.put, hkn', hkn1', hkn2'], ?_, ?_, fun k hk2 hkr => ?_, ?_⟩, by rw [w1 (by omega)]; simp; omega⟩
   · simp [Heap.put, bys]
   · simp [Heap.put, List.take_of_length_le, celAV, bys]
   · first | exact k3 k hk2 hkr | ((repeat rw [if_neg (by omega)]); exact k3 k hk2 hkr) | (simp only [Heap.put_get]; (repeat rw [if_neg (by omega)]); exact k3 k hk2 hkr)
   · rw [← hix, rdMany_succ rdCel b hlt]; unfold rdCel; simp [ga, gb, gc, gd]
  ·skip
   have hge : i = cnt := by have := of_decide_eq_false hb; omega
   subst hge
   rw [Nat.sub_self] at hix
   have g4 : rdList rdCel b q1 = some (acc, q) := hix.symm
   refine awp_exit ?_
   try simp only [go_sem, seval, bys]
   refine hK1 _ _ _ ?_
   first | clear hK1 K1 | skip
   refine awp_reg zs [2] fun K hK => ?_
   try simp only [go_sem, seval, k2, k5, AV.memOK.eq_5, bys]
   refine hK _ _ _ ?_; clear hK K
   refine awp_ret ?_
   try simp only [go_sem, seval, k1, hkn']
   refine .inl ⟨_, rowAV ⟨rw9, acc⟩, q, rfl, by unfold rdRow; simp [g1, g4, rav], rfl, fun k hk hkr => ?_, ?_⟩
   · (repeat rw [if_neg (by omega)])
     exact k3 k hk hkr
   · refine .agg (.cons (.kl (kls_bytes _ _)) (.cons (.osl (e := 4) (els := acc.map celAV) ?_ (by omega) (by simp) ?_) .nil))
     · simp [Heap.put, hkn2, k4]
     · rw [List.drop_zero, List.take_of_length_le (by simp)]
       exact frzL_kl _ (kls_map celAV (fun x => kl_celAV x n) acc)
end Go.Proofs.YtifnhpmeoogedaaGreatDoor
namespace Go.Proofs.YtifnhpmeoogedaaGreatDoor
open Go Go.Sx Go.Rt Go.Proofs
set_option maxRecDepth 100000 in
set_option maxHeartbeats 3200000 in
theorem c_order_DecodeReply_S1 {b : List UInt8} {p kr kc : Nat} {r : RepE} (hb9 : b.length ≤ 1048576) (hp : p ≤ b.length) {H : Heap} {n : Nat} (hr : kr < n) (hc : kc < n) (h12 : kr ≠ kc) (hR : H kr = some (rdO b p)) (hC : H kc = some (.arr 0 6 [repN r])) : ACalls Tryz.prog 91 [.loc kr 0 0 0 [], .loc kc 0 0 0 []] H n (StR torn kr kc b repN H n (rp1 b r p)) := by
  have hb9' := hb9
  replace hb9 : b.length ≤ 1099511627776 := by omega
  have e1 : (kr = kc) = False := by simp [h12]
  have e1' : (kc = kr) = False := by simp [Ne.symm h12]
  refine acalls_of_awp Tryz.func91 rfl Tryz.ntmps91 (congrArg Array.toList Tryz.results91) (by simp) ?_
  simp only [go_sem]
  refine awp_reg1 zs [] fun K hK => ?_
  try simp only [go_sem, seval]
  refine callK_useK (args' := [.loc kr 0 0 0 []]) Tryz.func69 rfl rfl rfl (c_order_reader_uint hb9 hp hR) ?_ ?_
  rotate_left
  · intro e9 H9 n9 h9
    obtain ⟨h1, rfl, h2, h3⟩ := h9.die
    refine .non (by unfold rp1; simp [h1]) (by omega) fun k hk1 hk2 hk3 => (h3 k (by omega) hk2).trans ?_
    first | rfl | (simp only [Heap.put_get]; (repeat rw [if_neg (by omega)]))
  rintro rr H9 n9 h9
  obtain ⟨x, q1, g1, rfl, rfl, rfl⟩ := h9.get
  have hq1 := rdUint_le g1
  refine callK_useK (args' := [.loc kr 0 0 0 []]) Tryz.func67 rfl rfl rfl (c_order_reader_byte hb9 hq1.1 (by simp [Heap.put, hR, e1, e1'])) ?_ ?_
  rotate_left
  · intro e9 H9 n9 h9
    obtain ⟨h1, rfl, h2, h3⟩ := h9.die
    refine .non (by unfold rp1; simp [g1, h1]) (by omega) fun k hk1 hk2 hk3 => (h3 k (by omega) hk2).trans ?_
    first | rfl | (simp only [Heap.put_get]; (repeat rw [if_neg (by omega)]))
  rintro rr H9 n9 h9
  obtain ⟨y, q2, g2, rfl, rfl, rfl⟩ := h9.get
  have hq2 := rdByte_le g2
  try simp only [go_sem, seval]
  refine callK_useK (args' := [.loc kr 0 0 0 []]) Tryz.func69 rfl rfl rfl (c_order_reader_uint hb9 hq2.1 (by simp [Heap.put, hR, e1, e1'])) ?_ ?_
  rotate_left
  · intro e9 H9 n9 h9
    obtain ⟨h1, rfl, h2, h3⟩ := h9.die
    refine .non (by unfold rp1; simp [g1, g2, h1]) (by omega) fun k hk1 hk2 hk3 => (h3 k (by omega) hk2).trans ?_
    first | rfl | (simp only [Heap.put_get]; (repeat rw [if_neg (by omega)]))
  rintro rr H9 n9 h9
  obtain ⟨z, q3, g3, rfl, rfl, rfl⟩ := h9.get
  have hq3 := rdUint_le g3
  try simp only [go_sem, seval, hC, e1', repN, AV.memOK.eq_5, bys]
  refine hK _ _ _ ?_; clear hK K
  try simp only [go_sem, seval]
  refine .som (c := { r with err := x, held := y == 1, value := z }) (q := q3) (by unfold rp1; simp [g1, g2, g3]) rfl hq3.1 (by simp [Heap.put, e1, e1']) (by simp [Heap.put, e1, e1', repN, bys]) fun k hk1 hk2 hk3 => by simp only [Heap.put_get]; (repeat rw [if_neg (by omega)])
set_option maxRecDepth 100000 in
set_option maxHeartbeats 3200000 in
theorem c_order_DecodeReply_S3 {b : List UInt8} {p kr kc : Nat} {r : RepE} (hb9 : b.length ≤ 1048576) (hp : p ≤ b.length) {H : Heap} {n : Nat} (hr : kr < n) (hc : kc < n) (h12 : kr ≠ kc) (hR : H kr = some (rdO b p)) (hC : H kc = some (.arr 0 6 [repAV r])) : ACalls Tryz.prog 95 [.loc kr 0 0 0 [], .loc kc 0 0 0 []] H n (StR torn kr kc b repAV H n (rp3 b r p)) := by
  have hb9' := hb9
  replace hb9 : b.length ≤ 1099511627776 := by omega
  have e1 : (kr = kc) = False := by simp [h12]
  have e1' : (kc = kr) = False := by simp [Ne.symm h12]
  refine acalls_of_awp Tryz.func95 rfl Tryz.ntmps95 (congrArg Array.toList Tryz.results95) (by simp) ?_
  simp only [go_sem]
  refine awp_reg1 zs [] fun K hK => ?_
  try simp only [go_sem, seval]
  refine callK_useK (args' := [.loc kr 0 0 0 []]) Tryz.func71 rfl rfl rfl (c_order_reader_bytes hb9 hp hR) ?_ ?_
  rotate_left
  · intro e9 H9 n9 h9
    obtain ⟨h1, rfl, h2, h3⟩ := h9.die
    refine .non (by unfold rp3; simp [h1]) (by omega) fun k hk1 hk2 hk3 => (h3 k (by omega) hk2).trans ?_
    first | rfl | (simp only [Heap.put_get]; (repeat rw [if_neg (by omega)]))
  rintro rr H9 n9 h9
  obtain ⟨x, q1, g1, rfl, rfl, rfl⟩ := h9.get
  have hq1 := rdBytes_le g1
  try simp only [go_sem, seval, bys]
  refine callK_useK (args' := [.loc kr 0 0 0 []]) Tryz.func67 rfl rfl rfl (c_order_reader_byte hb9 hq1.1 (by simp [Heap.put, hR, e1, e1'])) ?_ ?_
  rotate_left
  · intro e9 H9 n9 h9
    obtain ⟨h1, rfl, h2, h3⟩ := h9.die
    refine .non (by unfold rp3; simp [g1, h1]) (by omega) fun k hk1 hk2 hk3 => (h3 k (by omega) hk2).trans ?_
    first | rfl | (simp only [Heap.put_get]; (repeat rw [if_neg (by omega)]))
  rintro rr H9 n9 h9
  obtain ⟨y, q2, g2, rfl, rfl, rfl⟩ := h9.get
  have hq2 := rdByte_le g2
  try simp only [go_sem, seval, hC, e1', repAV, AV.memOK.eq_5, bys]
  refine hK _ _ _ ?_; clear hK K
  try simp only [go_sem, seval]
  refine .som (c := { r with token := x, done := y == 1 }) (q := q2) (by unfold rp3; simp [g1, g2]) rfl hq2.1 (by simp [Heap.put, e1, e1']) (by simp [Heap.put, e1, e1', repAV, bys]) fun k hk1 hk2 hk3 => by simp only [Heap.put_get]; (repeat rw [if_neg (by omega)])
set_option maxRecDepth 100000 in
set_option maxHeartbeats 3200000 in
theorem c_order_DecodeReply_S2 {b : List UInt8} {p kr kc : Nat} {r : RepE} (hb9 : b.length ≤ 1048576) (hp : p ≤ b.length) {H : Heap} {n : Nat} (hr : kr < n) (hc : kc < n) (h12 : kr ≠ kc) (hR : H kr = some (rdO b p)) (hC : H kc = some (.arr 0 6 [repN r])) : ACalls Tryz.prog 92 [.loc kr 0 0 0 [], .loc kc 0 0 0 []] H n (StR torn kr kc b repAV H n (rp2 b r p)) := by
  have hb9' := hb9
  replace hb9 : b.length ≤ 1099511627776 := by omega
  have e1 : (kr = kc) = False := by simp [h12]
  have e1' : (kc = kr) = False := by simp [Ne.symm h12]
  have hkn : (n = kr) = False := by simp; omega
  have hkn' : (kr = n) = False := by simp; omega
  have hkc : (n = kc) = False := by simp; omega
  have hkc' : (kc = n) = False := by simp; omega
  have hrz : ∀ x, (rowAV x).sz = 2 := fun _ => rfl
  have hrm : ∀ x, (rowAV x).memOK = true := fun _ => rfl
  have hst : ∀ x, strip true (rowAV x) = rowAV x := fun _ => rfl
  have k1 := hR
  have k2 := hR
  have k4 := hR
  refine StR.fin hr hc h12 ?_
  refine acalls_of_awp Tryz.func92 rfl Tryz.ntmps92 (congrArg Array.toList Tryz.results92) (by simp) ?_
  simp only [go_sem]
  refine awp_reg zs [0, 1, 4, 5] fun K hK => ?_
  try simp only [go_sem, seval]
  refine callK_useK (args' := [.loc kr 0 0 0 []]) Tryz.func93 rfl rfl rfl (c_order_reader_count hb9 hp hR) ?_ ?_
  rotate_left
  · intro e9 H9 n9 h9
    obtain ⟨h1, rfl, h2, h3⟩ := h9.die
    refine .inr ⟨by unfold rp2 rdList; simp [h1], rfl, by omega, fun k hk1 hk2 hk3 => h3 k (by omega) hk2⟩
  rintro rr H9 n9 h9
  obtain ⟨cnt, q0, g0, rfl, rfl, rfl⟩ := h9.get
  have hq0 := rdCount_le g0
  refine hK _ _ _ ?_; clear hK K
  refine awp_block ?_
  refine awp_adopt_obj kc 2 (ver := 0) (e := 6) (els := [repN r]) (els' := [.agg [.int .i64 r.err, .bool r.held, .int .i64 r.value, .agg [.osl n 0 0 0, bys r.token, .bool r.done]]]) (by simp [Heap.put, e1', hC]) ⟨.agg ⟨.refl _ _, .refl _ _, .refl _ _, .agg ⟨.nilsl _, .refl _ _, .refl _ _, trivial⟩, trivial⟩, trivial⟩ ?_
  refine awp_loop (fun T' H' n' => ∃ (i q ver : Nat) (acc : List RowE), i ≤ cnt ∧ acc.length = i ∧ q ≤ b.length ∧ T' = tl [(0, .loc kr 0 0 0 []), (1, .loc kc 0 0 0 []), (4, .int .i64 cnt), (5, .int .i64 i)] ∧ H' kr = some (rdO b q) ∧ H' kc = some (.arr 0 6 [.agg [.int .i64 r.err, .bool r.held, .int .i64 r.value, .agg [.osl n ver 0 acc.length, bys r.token, .bool r.done]]]) ∧ H' n = some (.arr ver 2 (acc.map rowAV)) ∧ (∀ k, k < n → k ≠ kr → k ≠ kc → H' k = H k) ∧ n' = n + 1 ∧ rdMany rdRow b (cnt - i) q acc = rdList rdRow b p) (fun T' _ _ => cnt - iv (T' 5)) ?_ ?_
  ·skip
   refine ⟨0, q0, 0, [], Nat.zero_le _, rfl, by omega, rfl, by simp [Heap.put, hkn', e1], by simp [Heap.put], by simp [Heap.put, hkc], fun k hk2 hk3 hk4 => by (simp only [Heap.put_get]; (repeat rw [if_neg (by omega)])), rfl, ?_⟩
   unfold rdList; rw [g0]; rfl
  intro T1 H1 n1
  rintro ⟨i, q, ver, acc, hi, hal, hq, rfl, k1, k2, k4, k3, rfl, hix⟩
  refine awp_reg zs [0, 1, 4, 5, 6] fun K hK => ?_
  try simp only [go_sem, seval, bys]
  refine hK _ _ _ ?_; clear hK K
  refine awp_seq_k fun K1 hK1 => ?_
  refine awp_cnd (fun hb => ?_) (fun hb => ?_)
  ·skip
   have hlt : i < cnt := by have := of_decide_eq_true hb; omega
   refine awp_skip ?_
   try simp only [go_sem, seval, bys]
   refine hK1 _ _ _ ?_
   first | clear hK1 K1 | skip
   refine awp_seq_k fun K2 hK2 => ?_
   refine awp_block ?_
   refine awp_drp1 rfl zs [0, 1, 4, 5] [.q, .q, .q, .m, .w [0, 1, 2], .q, .w [], .q, .q, .w []] [0, 1, 2, 3, 4, 5, 6, 7, 8, 9] [0, 1, 2, 3, 4, 5, 6, 7, 8, 9] (by kernel_rfl) (fun _ _ _ _ _ h => h) fun K hK => ?_
   try simp only [go_sem, seval, k2, bys]
   repeat (first | (refine And.intro ?_ ?_; · first | exact ⟨rfl, by simp [AV.sz, AV.szs, AV.memOK, rowAV, bys]⟩ | exact ⟨by omega, .inr trivial, by omega, by omega⟩) | refine peel ?_)
   refine callK_useK (args' := [.loc kr 0 0 0 []]) Tryz.func94 rfl rfl rfl (c_order_row hb9' hq (by omega) k1) ?_ ?_
   rotate_left
   · intro e9 H9 n9 h9
     obtain ⟨h1, rfl, h2, h3⟩ := h9.die
     rw [rdMany_succ rdRow b hlt, h1] at hix
     refine .inr ⟨by unfold rp2; rw [← hix]; rfl, rfl, by omega, fun k hk1 hk2 hk3 => (h3 k (by omega) hk2).trans (k3 k hk1 hk2 hk3)⟩
   rintro rr H9 n9 h9
   obtain ⟨x, q1, g1, rfl, rfl, rfl⟩ := h9.get
   have hq1 := rdRow_le g1
   try simp only [go_sem, seval, k2, k4, e1', hkn, hkc', hst, AV.memOK.eq_5, bys, List.length_map]
   repeat (first | (refine And.intro ?_ ?_; · first | exact ⟨rfl, by simp [AV.sz, AV.szs, AV.memOK, rowAV, bys]⟩ | exact ⟨by omega, .inr trivial, by omega, by omega⟩) | refine peel ?_)
   refine hK _ _ _ ?_; clear hK K
   try simp only [go_sem, seval, bys]
   refine hK2 _ _ _ ?_
   first | clear hK2 K2 | skip
   refine awp_reg1 zs [0, 1, 4, 5] fun K hK => ?_
   try simp only [go_sem, seval, bys]
   refine hK _ _ _ ?_; clear hK K
   try simp only [go_sem, seval, e1, hkn', hkc, bys]
   refine ⟨⟨i + 1, q1, ver + 1, acc ++ [x], by omega, by simp [hal], hq1.1, by rw [w1 (by omega)], by simp [Heap.put, hkn', e1], ?_, ?_, fun k hk2 hk3 hk4 => ?_, ?_⟩, by rw [w1 (by omega)]; simp; omega⟩
   · simp [Heap.put, bys]
   · simp [Heap.put, hkc, List.take_of_length_le, rowAV, bys]
   · first | exact k3 k hk2 hk3 hk4 | ((repeat rw [if_neg (by omega)]); exact k3 k hk2 hk3 hk4) | (simp only [Heap.put_get]; (repeat rw [if_neg (by omega)]); exact k3 k hk2 hk3 hk4)
   · rw [← hix, rdMany_succ rdRow b hlt, g1]; rfl
  ·skip
   have hge : i = cnt := by have := of_decide_eq_false hb; omega
   subst hge
   rw [Nat.sub_self] at hix
   have g4 : rdList rdRow b p = some (acc, q) := hix.symm
   refine awp_exit ?_
   try simp only [go_sem, seval, k1, k2, bys]
   refine .inl ⟨{ r with rows := acc }, q, _, by unfold rp2; rw [g4]; rfl, hq, rfl, rfl, ?_, k3⟩
   refine .agg (.cons (.kl trivial) (.cons (.kl trivial) (.cons (.kl trivial) (.cons (.agg (.cons (.osl (e := 2) k4 (by omega) (by simp) ?_) (.cons (.kl (kls_bytes _ _)) (.cons (.kl trivial) .nil)))) .nil))))
   rw [List.drop_zero, List.take_of_length_le (by simp)]
   exact frzL_kl _ (kls_map rowAV (fun x => kl_rowAV x n) acc)
end Go.Proofs.YtifnhpmeoogedaaGreatDoor
namespace Go.Proofs.YtifnhpmeoogedaaGreatDoor
open Go Go.Sx Go.Rt Go.Proofs
def stepsR (kc : Nat) : List (Nat × List AV) := [(91, [.loc kc 0 0 0 []]), (92, [.loc kc 0 0 0 []]), (95, [.loc kc 0 0 0 []])]
def stgR (i : Nat) (r : RepE) : AV := if i ≤ 1 then repN r else repAV r
theorem c_order_readRep {b : List UInt8} (hb9 : b.length ≤ 1048576) {kc : Nat} {H : Heap} {n : Nat} (hc : kc < n) (hC : H kc = some (.arr 0 6 [repN zr])) :
    ACalls Tryz.prog 65 [bys b, .sl 1 ((stepsR kc).map fun x => .fn (.func x.1) [] x.2)] H n (fun res H' n' => n + 2 ≤ n' ∧ (∀ k, k < n → k ≠ kc → H' k = H k) ∧ ∃ v, res = .val (.bool v) ∧ ((v = true ∧ ∃ c, rdRep b = some c ∧ H' kc = some (.arr 0 6 [repAV c])) ∨ (v = false ∧ rdRep b = none))) := by
  refine (c_order_whole hb9 (stepsR kc) (by simp [stepsR]) (H := H) (n := n)
    (fun i p H2 n2 => n ≤ n2 ∧ (∃ c, rpch b i = some (c, p) ∧ H2 kc = some (.arr 0 6 [stgR i c])) ∧ ∀ k, k < n → k ≠ kc → H2 k = H k)
    (fun H2 => rpch b 3 = none ∧ ∀ k, k < n → k ≠ kc → H2 k = H k) ?_ ?_ ⟨Nat.le_refl _, ⟨zr, rfl, hC⟩, fun _ _ _ => rfl⟩ ?_).mono ?_
  · rintro i p H2 n2 H3 n3 ⟨h0, ⟨c, h1, h2⟩, h4⟩ h5 h6
    exact ⟨by omega, ⟨c, h1, (h5 kc (by omega) (by omega) (by omega)).trans h2⟩, fun k g1 g2 => (h5 k (by omega) (by omega) (by omega)).trans (h4 k g1 g2)⟩
  · rintro H2 H3 ⟨h1, h2⟩ h3
    exact ⟨h1, fun k g1 g2 => (h3 k g1).trans (h2 k g1 g2)⟩
  · rintro i x hx p H2 n2 hp hn hR ⟨_, ⟨c, h1, h2⟩, h4⟩
    have hi : i < 3 := by
      have := (List.getElem?_eq_some_iff.1 hx).1
      simpa [stepsR] using this
    have fin : ∀ {f : Nat} {args : List AV}, ACalls Tryz.prog f args H2 n2 (StR torn (n + 1) kc b (stgR (i + 1)) H2 n2 (rpi i b c p)) → ACalls Tryz.prog f args H2 n2 (fun res H3 n3 =>
        (∃ q, res = .val (.tup []) ∧ q ≤ b.length ∧ H3 (n + 1) = some (rdO b q) ∧ H3 n = H2 n ∧ n2 ≤ n3 ∧ (n ≤ n3 ∧ (∃ c, rpch b (i + 1) = some (c, q) ∧ H3 kc = some (.arr 0 6 [stgR (i + 1) c])) ∧ ∀ k, k < n → k ≠ kc → H3 k = H k)) ∨ (res = .pan torn ∧ H3 n = H2 n ∧ n2 ≤ n3 ∧ (rpch b 3 = none ∧ ∀ k, k < n → k ≠ kc → H3 k = H k))) := fun h => h.mono fun res H3 n3 hh => by
      have hr : rpch b (i + 1) = rpi i b c p := by show (rpch b i).bind _ = _; rw [h1]; rfl
      cases hs : rpi i b c p with
      | some y =>
        rw [hs] at hh
        obtain ⟨g1, g2, g3, g4, g5, g7⟩ := hh
        exact .inl ⟨y.2, g1, g3, g4, g7 n (by omega) (by omega) (by omega), by omega, by omega, ⟨y.1, by rw [hr, hs], g5⟩, fun k e1 e2 => (g7 k (by omega) (by omega) e2).trans (h4 k e1 e2)⟩
      | none =>
        rw [hs] at hh
        obtain ⟨g1, g2, g7⟩ := hh
        exact .inr ⟨g1, g7 n (by omega) (by omega) (by omega), g2, rpch_dead (by rw [hr, hs]) hi, fun k e1 e2 => (g7 k (by omega) (by omega) e2).trans (h4 k e1 e2)⟩
    have hi' : i = 0 ∨ i = 1 ∨ i = 2 := by omega
    rcases hi' with rfl | rfl | rfl <;> (simp only [stepsR, List.getElem?_cons_zero, List.getElem?_cons_succ, Option.some.injEq] at hx; subst hx)
    · exact ⟨⟨_, Tryz.func91, rfl, rfl⟩, fin (c_order_DecodeReply_S1 hb9 hp (by omega) (by omega) (by omega) hR h2)⟩
    · exact ⟨⟨_, Tryz.func92, rfl, rfl⟩, fin (c_order_DecodeReply_S2 hb9 hp (by omega) (by omega) (by omega) hR h2)⟩
    · exact ⟨⟨_, Tryz.func95, rfl, rfl⟩, fin (c_order_DecodeReply_S3 hb9 hp (by omega) (by omega) (by omega) hR h2)⟩
  · rintro res H' n' ⟨hn, ⟨p, hp, rfl, _, ⟨c, h1, h2⟩, h4⟩ | ⟨rfl, h1, h4⟩⟩
    · refine ⟨hn, h4, _, rfl, ?_⟩
      rw [rdRep_rpch, show (stepsR kc).length = 3 from rfl] at *
      rw [h1, Option.bind_some]
      by_cases e : p = b.length
      · exact .inl ⟨by simp [e], c, by simp [e], h2⟩
      · exact .inr ⟨by simp; omega, by simp [e]⟩
    · exact ⟨hn, h4, _, rfl, .inr ⟨rfl, by rw [rdRep_rpch, h1]; rfl⟩⟩
set_option maxRecDepth 100000 in
set_option maxHeartbeats 3200000 in
theorem c_order_DecodeReply (b : List UInt8) {H : Heap} {n : Nat} :
    Ret Tryz.prog 37 [bys b] H n (.tup [repAV (decR b).1, .int .i64 (decR b).2]) H n := by
  have hcag : ∀ c, (repAV c).isAgg = true := fun _ => rfl
  have hcmo : ∀ c, (repAV c).memOK = true := fun _ => rfl
  have hb3 : (false == false) = true := rfl
  have hb4 : (true == false) = false := rfl
  have hzsz : repZ.sz = 6 := rfl
  have k1 := hb3
  have k2 := hb3
  refine Ret.fin ?_
  refine acalls_of_awp Tryz.func37 rfl Tryz.ntmps37 (congrArg Array.toList Tryz.results37) (by simp) ?_
  simp only [go_sem]
  refine awp_reg zs [0, 2] fun K hK => ?_
  try simp only [go_sem, seval]
  refine hK _ _ _ ?_; clear hK K
  refine awp_seq_k fun K1 hK1 => ?_
  refine awp_reg zs [0, 2, 8] fun K hK => ?_
  try simp only [go_sem, seval, List.length_map]
  refine hK _ _ _ ?_; clear hK K
  refine awp_cnd (fun hb => ?_) (fun hb => ?_)
  ·skip
   have hd : decR b = (zr, 2) := by have h9 : 1048576 < b.length := (by simp at hb; omega); unfold decR; rw [if_pos h9]
   refine awp_reg zs [2, 3] fun K hK => ?_
   try simp only [go_sem, seval]
   refine hK _ _ _ ?_; clear hK K
   refine awp_ret ?_
   try simp only [go_sem, seval]
   first | refine ⟨_, rfl, fun k hk => ?_, ?_⟩ | refine ⟨⟨rfl, by rw [repAV_sz]⟩, _, rfl, fun k hk => ?_, ?_⟩
   · (repeat rw [if_neg (by omega)])
     try exact hl1 k hk
   · rw [hd]; first | exact .tup (.cons (repZ_frz _ _) (.cons (.kl trivial) .nil)) | exact .tup (.cons (.kl (kl_repAV _ _)) (.cons (.kl trivial) .nil))
  ·skip
   have hb8 : b.length ≤ 1048576 := by simp at hb; omega
   refine awp_skip ?_
   try simp only [go_sem, seval]
   refine hK1 _ _ _ ?_
   first | clear hK1 K1 | skip
   refine awp_reg zs [0, 2, 4] fun K hK => ?_
   try simp only [go_sem, seval, Nat.add_assoc]
   refine hK _ _ _ ?_; clear hK K
   refine awp_wk_obj (n + 1) (ver := 0) (e := 6) (els := [repZ]) (els' := [repN zr]) (by simp [Heap.put, repZ]) ⟨repZ_wk, trivial⟩ ?_
   refine awp_reg zs [0, 2, 4, 5] fun K hK => ?_
   try simp only [go_sem, seval]
   repeat (first | (refine And.intro ?_ ?_; · first | exact ⟨rfl, fun x hx => by simp only [List.mem_cons, List.not_mem_nil, or_false] at hx; rcases hx with rfl | rfl | rfl <;> exact ⟨rfl, rfl⟩⟩) | refine peel ?_)
   have hcall := fun Hc h1 => c_order_readRep (b := b) (H := Hc) (n := n + 2) (kc := n + 1) hb8 (by omega) h1
   refine callK_useK (args' := [bys b, .sl 1 ((stepsR (n + 1)).map fun x => .fn (.func x.1) [] x.2)]) Tryz.func65 rfl rfl rfl (hcall _ ?_) ?_ ?_
   · simp [Heap.put]
   rotate_left
   · rintro e9 H9 n9 ⟨_, _, v, h, _⟩; cases h
   rintro rr H1 n1 ⟨hn1, hlow, v, h, hcase⟩
   cases h
   have k1 : H1 n = some (.arr 0 6 [repZ]) := (hlow n (by omega) (by omega)).trans (by simp [Heap.put, repZ])
   have hl1 : ∀ k, k < n → H1 k = H k := fun k hk => (hlow k (by omega) (by omega)).trans (by simp only [Heap.put_get]; (repeat rw [if_neg (by omega)]))
   clear hlow
   try simp only [go_sem, seval]
   repeat (first | (refine And.intro ?_ ?_; · first | exact ⟨rfl, fun x hx => by simp only [List.mem_cons, List.not_mem_nil, or_false] at hx; rcases hx with rfl | rfl | rfl <;> exact ⟨rfl, rfl⟩⟩) | refine peel ?_)
   refine hK _ _ _ ?_; clear hK K
   refine awp_seq_k fun K2 hK2 => ?_
   rcases hcase with ⟨rfl, r, hcm, k2⟩ | ⟨rfl, hcm⟩
   ·skip
    obtain ⟨hr1, hr2, hr3⟩ := rdRep_le hcm
    refine awp_reg zs [2, 4, 29] fun K hK => ?_
    try simp only [go_sem, seval, k2, repAV_sz, hcag, Bool.not_true, hb3, true_implies]
    first | refine callG_use Tryz.func85 rfl rfl rfl (fun hg => (c_order_sound r (by omega) (fun x hx => by have := hr2 x hx; omega) _ _)) ?_ | ((refine contG_no fun r9 => ?_; try simp only [go_sem, seval, k1, k2, bys]); refine callG_use (r := .bool false) Tryz.func85 rfl rfl rfl (fun h => by first | (nomatch h) | (simp at h)) ?_)
    try simp only [go_sem, seval, k2, repAV_sz, hcag, Bool.not_true]
    repeat refine peel ?_
    try simp only [go_sem, seval]
    first | refine callG_use Tryz.func86 rfl rfl rfl (fun hg => (c_order_answer r (by simpa using hg) (fun x hx => by have := hr2 x hx; omega) (by omega) _ _)) ?_ | ((refine contG_no fun r9 => ?_; try simp only [go_sem, seval, k1, k2, bys]); refine callG_use (r := .sl 1 []) Tryz.func86 rfl rfl rfl (fun h => by first | (nomatch h) | (simp at h)) ?_)
    try simp only [go_sem, seval, bys]
    first | refine callG_use Tryz.func77 rfl rfl rfl (fun hg => (c_bytes_Equal (repB r) b _ _)) ?_ | (refine callG_use (r := .bool false) Tryz.func77 rfl rfl rfl (fun h => by first | (nomatch h) | (simp at h)) ?_)
    try simp only [go_sem, seval, true_implies]
    repeat refine peel ?_
    refine hK _ _ _ ?_; clear hK K
    refine awp_cnd (fun hb => ?_) (fun hb => ?_)
    ·skip
     have hd : decR b = (zr, 147) := by have hn : ¬(soundB r = true ∧ repB r = b) := (by rintro ⟨e1, e2⟩; simp [e1, e2] at hb); unfold decR; rw [if_neg (by omega), hcm]; simp only []; rw [if_neg hn]
     refine awp_reg zs [2, 3] fun K hK => ?_
     try simp only [go_sem, seval, k1]
     repeat refine peel ?_
     refine hK _ _ _ ?_; clear hK K
     refine awp_ret ?_
     try simp only [go_sem, seval]
     first | refine ⟨_, rfl, fun k hk => ?_, ?_⟩ | refine ⟨⟨rfl, by rw [repAV_sz]⟩, _, rfl, fun k hk => ?_, ?_⟩
     · (repeat rw [if_neg (by omega)])
       try exact hl1 k hk
     · rw [hd]; first | exact .tup (.cons (repZ_frz _ _) (.cons (.kl trivial) .nil)) | exact .tup (.cons (.kl (kl_repAV _ _)) (.cons (.kl trivial) .nil))
    ·skip
     have hd : decR b = (r, 0) := by have hn : soundB r = true ∧ repB r = b := (by by_cases e1 : soundB r = true <;> simp_all); unfold decR; rw [if_neg (by omega), hcm]; simp only []; rw [if_pos hn]
     refine awp_skip ?_
     try simp only [go_sem, seval]
     refine hK2 _ _ _ ?_
     first | clear hK2 K2 | skip
     refine awp_reg zs [2, 3] fun K hK => ?_
     try simp only [go_sem, seval, k1, k2, repAV_sz, hcag, hcmo, hzsz]
     refine hK _ _ _ ?_; clear hK K
     refine awp_ret ?_
     try simp only [go_sem, seval]
     first | refine ⟨_, rfl, fun k hk => ?_, ?_⟩ | refine ⟨⟨rfl, by rw [repAV_sz]⟩, _, rfl, fun k hk => ?_, ?_⟩
     · (repeat rw [if_neg (by omega)])
       try exact hl1 k hk
     · rw [hd]; first | exact .tup (.cons (repZ_frz _ _) (.cons (.kl trivial) .nil)) | exact .tup (.cons (.kl (kl_repAV _ _)) (.cons (.kl trivial) .nil))
   ·skip
    skip
    refine awp_reg zs [2, 4, 29] fun K hK => ?_
    try simp only [go_sem, seval, Bool.not_false, hb4]
    first | refine callG_use Tryz.func85 rfl rfl rfl (fun hg => (c_order_sound r (by omega) (fun x hx => by have := hr2 x hx; omega) _ _)) ?_ | ((refine contG_no fun r9 => ?_; try simp only [go_sem, seval, k1, k2, bys]); refine callG_use (r := .bool false) Tryz.func85 rfl rfl rfl (fun h => by first | (nomatch h) | (simp at h)) ?_)
    try simp only [go_sem, seval, Bool.not_false]
    repeat refine peel ?_
    try simp only [go_sem, seval, hb4]
    first | refine callG_use Tryz.func86 rfl rfl rfl (fun hg => (c_order_answer r (by simpa using hg) (fun x hx => by have := hr2 x hx; omega) (by omega) _ _)) ?_ | ((refine contG_no fun r9 => ?_; try simp only [go_sem, seval, k1, k2, bys]); refine callG_use (r := .sl 1 []) Tryz.func86 rfl rfl rfl (fun h => by first | (nomatch h) | (simp at h)) ?_)
    try simp only [go_sem, seval, Bool.not_false]
    first | refine callG_use Tryz.func77 rfl rfl rfl (fun hg => (c_bytes_Equal (repB r) b _ _)) ?_ | (refine callG_use (r := .bool false) Tryz.func77 rfl rfl rfl (fun h => by first | (nomatch h) | (simp at h)) ?_)
    try simp only [go_sem, seval, Bool.not_false]
    repeat refine peel ?_
    refine hK _ _ _ ?_; clear hK K
    refine awp_cnd (fun hb => ?_) (fun hb => ?_)
    ·skip
     have hd : decR b = (zr, 147) := by unfold decR; rw [if_neg (by omega), hcm]
     refine awp_reg zs [2, 3] fun K hK => ?_
     try simp only [go_sem, seval, k1]
     repeat refine peel ?_
     refine hK _ _ _ ?_; clear hK K
     refine awp_ret ?_
     try simp only [go_sem, seval]
     first | refine ⟨_, rfl, fun k hk => ?_, ?_⟩ | refine ⟨⟨rfl, by rw [repAV_sz]⟩, _, rfl, fun k hk => ?_, ?_⟩
     · (repeat rw [if_neg (by omega)])
       try exact hl1 k hk
     · rw [hd]; first | exact .tup (.cons (repZ_frz _ _) (.cons (.kl trivial) .nil)) | exact .tup (.cons (.kl (kl_repAV _ _)) (.cons (.kl trivial) .nil))
    ·skip
     exact absurd hb (by simp) --dead
end Go.Proofs.YtifnhpmeoogedaaGreatDoor
namespace Go.Proofs.YtifnhpmeoogedaaGreatDoor
open Go Go.Sx Go.Rt Go.Proofs
theorem c_ref14_out (x lo hi : Int) (H : Heap) (n : Nat) : Ret Tryz.prog 57 [.int .i64 x, .int .i64 lo, .int .i64 hi] H n (.bool (bout x lo hi)) H n := by
  refine acalls_of_awp Tryz.func57 rfl Tryz.ntmps57 (congrArg Array.toList Tryz.results57) (by simp) ?_
  simp only [go_sem]
  refine awp_rq zs [0, 1, 2] ?_
  refine awp_rq zs [6] ?_
  refine awp_ret ?_
  try simp only [go_sem, seval]
  simp [bout]
theorem c_ref14_zero (q : QryE) (H : Heap) (n : Nat) : Ret Tryz.prog 62 [qryAV q] H n (.bool (decide (q = zq))) H n := by
  refine Ret.fin ?_
  refine acalls_of_awp Tryz.func62 rfl Tryz.ntmps62 (congrArg Array.toList Tryz.results62) (by simp) ?_
  simp only [go_sem]
  refine awp_reg zs [1] fun K hK => ?_
  try simp only [go_sem, seval, qryAV, numsAV]
  refine hK _ _ _ ?_; clear hK K
  refine awp_reg zs [1, 3] fun K hK => ?_
  try simp only [go_sem, seval, List.length_map]
  repeat refine peel ?_
  refine hK _ _ _ ?_; clear hK K
  refine awp_reg zs [2] fun K hK => ?_
  try simp only [go_sem, seval]
  repeat refine peel ?_
  refine hK _ _ _ ?_; clear hK K
  refine awp_ret ?_
  try simp only [go_sem, seval]
  refine ⟨_, rfl, fun k hk => ?_, Frz.eq ?_ trivial⟩
  · (repeat rw [if_neg (by omega)])
  · congr 1; rw [Bool.eq_iff_iff]; cases q; simp [zq, beq_iff_eq]; constructor <;> intro h <;> simp_all
theorem c_ref14_client (c : CmdE) (H : Heap) (n : Nat) : Ret Tryz.prog 58 [cmdAV c] H n (.bool (!cb3 c)) H n := by
  have hsz := qryAV_sz c.q
  refine Ret.fin ?_
  refine acalls_of_awp Tryz.func58 rfl Tryz.ntmps58 (congrArg Array.toList Tryz.results58) (by simp) ?_
  simp only [go_sem]
  refine awp_reg zs [1] fun K hK => ?_
  try simp only [go_sem, seval, cmdAV, hsz]
  refine hK _ _ _ ?_; clear hK K
  refine awp_reg zs [1, 3] fun K hK => ?_
  try simp only [go_sem, seval]
  refine hK _ _ _ ?_; clear hK K
  refine awp_reg zs [1, 3, 4] fun K hK => ?_
  try simp only [go_sem, seval]
  refine hK _ _ _ ?_; clear hK K
  refine awp_seq_k fun K1 hK1 => ?_
  refine awp_reg zs [1, 3, 4, 7] fun K hK => ?_
  try simp only [go_sem, seval]
  refine hK _ _ _ ?_; clear hK K
  refine awp_cnd (fun hb => ?_) (fun hb => ?_)
  ·skip
   refine awp_reg1 zs [1, 3, 4] fun K hK => ?_
   try simp only [go_sem, seval]
   refine hK _ _ _ ?_; clear hK K
   try simp only [go_sem, seval]
   refine hK1 _ _ _ ?_
   first | clear hK1 K1 | skip
   refine awp_seq_k fun K2 hK2 => ?_
   refine awp_reg zs [1, 3, 4, 10] fun K hK => ?_
   try simp only [go_sem, seval]
   refine hK _ _ _ ?_; clear hK K
   refine awp_cnd (fun hb => ?_) (fun hb => ?_)
   ·skip
    refine awp_reg1 zs [1, 3, 4] fun K hK => ?_
    try simp only [go_sem, seval]
    refine hK _ _ _ ?_; clear hK K
    try simp only [go_sem, seval]
    refine hK2 _ _ _ ?_
    first | clear hK2 K2 | skip
    refine awp_reg zs [2] fun K hK => ?_
    try simp only [go_sem, seval]
    refine callK_use Tryz.func57 rfl rfl rfl ((c_ref14_out _ _ _ _ _)) ?_
    try simp only [go_sem, seval]
    refine hK _ _ _ ?_; clear hK K
    refine awp_ret ?_
    try simp only [go_sem, seval]
    refine ⟨_, rfl, fun k hk => ?_, Frz.eq ?_ trivial⟩
    · (repeat rw [if_neg (by omega)])
    · congr 1; simp [cb3, kClient, kFree]; split <;> split <;> first | rfl | (exfalso; simp at *; omega)
   ·skip
    refine awp_skip ?_
    try simp only [go_sem, seval]
    refine hK2 _ _ _ ?_
    first | clear hK2 K2 | skip
    refine awp_reg zs [2] fun K hK => ?_
    try simp only [go_sem, seval]
    refine callK_use Tryz.func57 rfl rfl rfl ((c_ref14_out _ _ _ _ _)) ?_
    try simp only [go_sem, seval]
    refine hK _ _ _ ?_; clear hK K
    refine awp_ret ?_
    try simp only [go_sem, seval]
    refine ⟨_, rfl, fun k hk => ?_, Frz.eq ?_ trivial⟩
    · (repeat rw [if_neg (by omega)])
    · congr 1; simp [cb3, kClient, kFree]; split <;> split <;> first | rfl | (exfalso; simp at *; omega)
  ·skip
   refine awp_skip ?_
   try simp only [go_sem, seval]
   refine hK1 _ _ _ ?_
   first | clear hK1 K1 | skip
   refine awp_seq_k fun K3 hK3 => ?_
   refine awp_reg zs [1, 3, 4, 10] fun K hK => ?_
   try simp only [go_sem, seval]
   refine hK _ _ _ ?_; clear hK K
   refine awp_cnd (fun hb => ?_) (fun hb => ?_)
   ·skip
    refine awp_reg1 zs [1, 3, 4] fun K hK => ?_
    try simp only [go_sem, seval]
    refine hK _ _ _ ?_; clear hK K
    try simp only [go_sem, seval]
    refine hK3 _ _ _ ?_
    first | clear hK3 K3 | skip
    refine awp_reg zs [2] fun K hK => ?_
    try simp only [go_sem, seval]
    refine callK_use Tryz.func57 rfl rfl rfl ((c_ref14_out _ _ _ _ _)) ?_
    try simp only [go_sem, seval]
    refine hK _ _ _ ?_; clear hK K
    refine awp_ret ?_
    try simp only [go_sem, seval]
    refine ⟨_, rfl, fun k hk => ?_, Frz.eq ?_ trivial⟩
    · (repeat rw [if_neg (by omega)])
    · congr 1; simp [cb3, kClient, kFree]; split <;> split <;> first | rfl | (exfalso; simp at *; omega)
   ·skip
    refine awp_skip ?_
    try simp only [go_sem, seval]
    refine hK3 _ _ _ ?_
    first | clear hK3 K3 | skip
    refine awp_reg zs [2] fun K hK => ?_
    try simp only [go_sem, seval]
    refine callK_use Tryz.func57 rfl rfl rfl ((c_ref14_out _ _ _ _ _)) ?_
    try simp only [go_sem, seval]
    refine hK _ _ _ ?_; clear hK K
    refine awp_ret ?_
    try simp only [go_sem, seval]
    refine ⟨_, rfl, fun k hk => ?_, Frz.eq ?_ trivial⟩
    · (repeat rw [if_neg (by omega)])
    · congr 1; simp [cb3, kClient, kFree]; split <;> split <;> first | rfl | (exfalso; simp at *; omega)
theorem c_ref14_amount (c : CmdE) (hk1 : 1 ≤ c.kind) (H : Heap) (n : Nat) : Ret Tryz.prog 60 [cmdAV c] H n (.bool (!cb9 c)) H n := by
  have hsz := qryAV_sz c.q
  refine Ret.fin ?_
  refine acalls_of_awp Tryz.func60 rfl Tryz.ntmps60 (congrArg Array.toList Tryz.results60) (by simp) ?_
  simp only [go_sem]
  refine awp_reg zs [1] fun K hK => ?_
  try simp only [go_sem, seval, cmdAV, hsz]
  refine hK _ _ _ ?_; clear hK K
  refine awp_seq_k fun K1 hK1 => ?_
  refine awp_reg zs [1, 4] fun K hK => ?_
  try simp only [go_sem, seval]
  refine hK _ _ _ ?_; clear hK K
  refine awp_block ?_
  refine awp_reg zs [1, 4, 5] fun K hK => ?_
  try simp only [go_sem, seval]
  refine hK _ _ _ ?_; clear hK K
  refine awp_cnd (fun hb => ?_) (fun hb => ?_)
  ·skip
   refine awp_reg zs [2] fun K hK => ?_
   try simp only [go_sem, seval]
   refine callK_use Tryz.func57 rfl rfl rfl ((c_ref14_out _ _ _ _ _)) ?_
   try simp only [go_sem, seval]
   refine hK _ _ _ ?_; clear hK K
   refine awp_ret ?_
   try simp only [go_sem, seval]
   refine ⟨_, rfl, fun k hk => ?_, Frz.eq ?_ trivial⟩
   · (repeat rw [if_neg (by omega)])
   · congr 1; have h0 : c.kind ≠ 0 := (by omega); by_cases h5 : c.kind = 5 <;> by_cases h6 : c.kind = 6 <;> simp_all [cb9, kLeast, bne]
  ·skip
   refine awp_reg zs [1, 11] fun K hK => ?_
   try simp only [go_sem, seval]
   refine hK _ _ _ ?_; clear hK K
   refine awp_cnd (fun hb => ?_) (fun hb => ?_)
   ·skip
    refine awp_reg zs [2] fun K hK => ?_
    try simp only [go_sem, seval]
    refine callK_use Tryz.func57 rfl rfl rfl ((c_ref14_out _ _ _ _ _)) ?_
    try simp only [go_sem, seval]
    refine hK _ _ _ ?_; clear hK K
    refine awp_ret ?_
    try simp only [go_sem, seval]
    refine ⟨_, rfl, fun k hk => ?_, Frz.eq ?_ trivial⟩
    · (repeat rw [if_neg (by omega)])
    · congr 1; have h0 : c.kind ≠ 0 := (by omega); by_cases h5 : c.kind = 5 <;> by_cases h6 : c.kind = 6 <;> simp_all [cb9, kLeast, bne]
   ·skip
    refine awp_skip ?_
    try simp only [go_sem, seval]
    refine hK1 _ _ _ ?_
    first | clear hK1 K1 | skip
    refine awp_reg zs [2] fun K hK => ?_
    try simp only [go_sem, seval]
    refine hK _ _ _ ?_; clear hK K
    refine awp_ret ?_
    try simp only [go_sem, seval]
    refine ⟨_, rfl, fun k hk => ?_, Frz.eq ?_ trivial⟩
    · (repeat rw [if_neg (by omega)])
    · congr 1; have h0 : c.kind ≠ 0 := (by omega); by_cases h5 : c.kind = 5 <;> by_cases h6 : c.kind = 6 <;> simp_all [cb9, kLeast, bne]
theorem c_ref14_cond (s : List Fml) (hs : s.length ≤ 2000000) (x : CondE) (H : Heap) (n : Nat) : Ret Tryz.prog 121 [schAV s, condAV x] H n (.bool (condOK s.length x)) H n := by
  have hw : IntKind.i64.wrap ((s.length : Int) - 1) = (s.length : Int) - 1 := w64 (by omega) (by omega)
  refine Ret.fin ?_
  refine acalls_of_awp Tryz.func121 rfl Tryz.ntmps121 (congrArg Array.toList Tryz.results121) (by simp) ?_
  simp only [go_sem]
  refine awp_reg zs [2, 3] fun K hK => ?_
  try simp only [go_sem, seval, condAV]
  refine hK _ _ _ ?_; clear hK K
  refine awp_seq_k fun K1 hK1 => ?_
  refine awp_reg zs [3, 28] fun K hK => ?_
  try simp only [go_sem, seval]
  refine callK_use Tryz.func57 rfl rfl rfl ((c_ref14_out x.kind 1 6 _ _)) ?_
  try simp only [go_sem, seval, List.length_map, hw]
  refine callG_use Tryz.func57 rfl rfl rfl (fun _ => (c_ref14_out x.fam 0 ((s.length : Int) - 1) _ _)) ?_
  try simp only [go_sem, seval, List.length_map]
  repeat refine peel ?_
  refine hK _ _ _ ?_; clear hK K
  refine awp_cnd (fun hb => ?_) (fun hb => ?_)
  ·skip
   refine awp_reg zs [4] fun K hK => ?_
   try simp only [go_sem, seval]
   refine hK _ _ _ ?_; clear hK K
   refine awp_ret ?_
   try simp only [go_sem, seval]
   refine ⟨_, rfl, fun k hk => ?_, Frz.eq ?_ trivial⟩
   · (repeat rw [if_neg (by omega)])
   · congr 1; unfold condOK; rw [Bool.eq_iff_iff]; clear hw; by_cases hv : x.value.length = 0 <;> simp [bout, -List.length_eq_zero_iff, hv] at * <;> omega
  ·skip
   refine awp_skip ?_
   try simp only [go_sem, seval]
   refine hK1 _ _ _ ?_
   first | clear hK1 K1 | skip
   refine awp_reg zs [4] fun K hK => ?_
   try simp only [go_sem, seval, List.length_map]
   repeat refine peel ?_
   refine hK _ _ _ ?_; clear hK K
   refine awp_ret ?_
   try simp only [go_sem, seval]
   refine ⟨_, rfl, fun k hk => ?_, Frz.eq ?_ trivial⟩
   · (repeat rw [if_neg (by omega)])
   · congr 1; unfold condOK; rw [Bool.eq_iff_iff]; clear hw; by_cases hv : x.value.length = 0 <;> simp [bout, -List.length_eq_zero_iff, hv] at * <;> omega
theorem c_ref14_op (s : List Fml) (hs : s.length ≤ 2000000) (x : OpE) (H : Heap) (n : Nat) : Ret Tryz.prog 122 [schAV s, opAV x] H n (.bool (opOK s.length x)) H n := by
  have hw : IntKind.i64.wrap ((s.length : Int) - 1) = (s.length : Int) - 1 := w64 (by omega) (by omega)
  refine Ret.fin ?_
  refine acalls_of_awp Tryz.func122 rfl Tryz.ntmps122 (congrArg Array.toList Tryz.results122) (by simp) ?_
  simp only [go_sem]
  refine awp_reg zs [2, 3] fun K hK => ?_
  try simp only [go_sem, seval, opAV]
  refine hK _ _ _ ?_; clear hK K
  refine awp_seq_k fun K1 hK1 => ?_
  refine awp_reg zs [3, 33] fun K hK => ?_
  try simp only [go_sem, seval]
  refine callK_use Tryz.func57 rfl rfl rfl ((c_ref14_out x.kind 1 5 _ _)) ?_
  try simp only [go_sem, seval, List.length_map, hw]
  refine callG_use Tryz.func57 rfl rfl rfl (fun _ => (c_ref14_out x.fam 0 ((s.length : Int) - 1) _ _)) ?_
  try simp only [go_sem, seval, List.length_map]
  repeat refine peel ?_
  refine callG_use Tryz.func57 rfl rfl rfl (fun _ => (c_ref14_out x.ts 0 1099511627776 _ _)) ?_
  try simp only [go_sem, seval]
  repeat refine peel ?_
  refine hK _ _ _ ?_; clear hK K
  refine awp_cnd (fun hb => ?_) (fun hb => ?_)
  ·skip
   refine awp_reg zs [4] fun K hK => ?_
   try simp only [go_sem, seval]
   refine hK _ _ _ ?_; clear hK K
   refine awp_ret ?_
   try simp only [go_sem, seval]
   refine ⟨_, rfl, fun k hk => ?_, Frz.eq ?_ trivial⟩
   · (repeat rw [if_neg (by omega)])
   · congr 1; unfold opOK; clear hw; generalize bout x.kind 1 5 = b1 at *; generalize bout x.fam 0 ((s.length : Int) - 1) = b2 at *; generalize bout x.ts 0 1099511627776 = b3 at *
     grind
  ·skip
   refine awp_skip ?_
   try simp only [go_sem, seval]
   refine hK1 _ _ _ ?_
   first | clear hK1 K1 | skip
   refine awp_seq_k fun K2 hK2 => ?_
   refine awp_reg zs [3, 53] fun K hK => ?_
   try simp only [go_sem, seval, List.length_map]
   repeat (first | (refine And.intro ?_ ?_; · first | (intro _ h; rw [h]; rfl)) | refine peel ?_)
   refine hK _ _ _ ?_; clear hK K
   refine awp_cnd (fun hb => ?_) (fun hb => ?_)
   ·skip
    refine awp_reg zs [4] fun K hK => ?_
    try simp only [go_sem, seval]
    refine hK _ _ _ ?_; clear hK K
    refine awp_ret ?_
    try simp only [go_sem, seval]
    refine ⟨_, rfl, fun k hk => ?_, Frz.eq ?_ trivial⟩
    · (repeat rw [if_neg (by omega)])
    · congr 1; unfold opOK; clear hw; generalize bout x.kind 1 5 = b1 at *; generalize bout x.fam 0 ((s.length : Int) - 1) = b2 at *; generalize bout x.ts 0 1099511627776 = b3 at *
      grind
   ·skip
    refine awp_skip ?_
    try simp only [go_sem, seval]
    refine hK2 _ _ _ ?_
    first | clear hK2 K2 | skip
    refine awp_seq_k fun K3 hK3 => ?_
    refine awp_reg zs [3, 56] fun K hK => ?_
    try simp only [go_sem, seval]
    refine hK _ _ _ ?_; clear hK K
    refine awp_cnd (fun hb => ?_) (fun hb => ?_)
    ·skip
     refine awp_reg zs [4] fun K hK => ?_
     try simp only [go_sem, seval]
     refine hK _ _ _ ?_; clear hK K
     refine awp_ret ?_
     try simp only [go_sem, seval]
     refine ⟨_, rfl, fun k hk => ?_, Frz.eq ?_ trivial⟩
     · (repeat rw [if_neg (by omega)])
     · congr 1; unfold opOK; clear hw; generalize bout x.kind 1 5 = b1 at *; generalize bout x.fam 0 ((s.length : Int) - 1) = b2 at *; generalize bout x.ts 0 1099511627776 = b3 at *
       grind
    ·skip
     refine awp_skip ?_
     try simp only [go_sem, seval]
     refine hK3 _ _ _ ?_
     first | clear hK3 K3 | skip
     refine awp_reg zs [4] fun K hK => ?_
     try simp only [go_sem, seval]
     refine hK _ _ _ ?_; clear hK K
     refine awp_ret ?_
     try simp only [go_sem, seval]
     refine ⟨_, rfl, fun k hk => ?_, Frz.eq ?_ trivial⟩
     · (repeat rw [if_neg (by omega)])
     · congr 1; unfold opOK; clear hw; generalize bout x.kind 1 5 = b1 at *; generalize bout x.fam 0 ((s.length : Int) - 1) = b2 at *; generalize bout x.ts 0 1099511627776 = b3 at *
       grind
end Go.Proofs.YtifnhpmeoogedaaGreatDoor
namespace Go.Proofs.YtifnhpmeoogedaaGreatDoor
open Go Go.Sx Go.Rt Go.Proofs
theorem qry_ext (a b : QryE) : a = b ↔ a.frm = b.frm ∧ a.to = b.to ∧ a.fams = b.fams ∧ a.pre = b.pre ∧ a.time = b.time ∧ a.n = b.n ∧ a.rows = b.rows ∧ a.rev = b.rev ∧ a.whr = b.whr ∧ a.token = b.token := by cases a; cases b; simp
theorem cmd_ext (a b : CmdE) : a = b ↔ a.kind = b.kind ∧ a.client = b.client ∧ a.serial = b.serial ∧ a.row = b.row ∧ a.conds = b.conds ∧ a.ops = b.ops ∧ a.n = b.n ∧ a.q = b.q := by cases a; cases b; simp
theorem cond_ext (a b : CondE) : a = b ↔ a.kind = b.kind ∧ a.fam = b.fam ∧ a.qual = b.qual ∧ a.value = b.value := by cases a; cases b; simp
theorem op_ext (a b : OpE) : a = b ↔ a.kind = b.kind ∧ a.fam = b.fam ∧ a.qual = b.qual ∧ a.ts = b.ts ∧ a.value = b.value ∧ a.delta = b.delta := by cases a; cases b; simp
set_option maxRecDepth 100000 in
set_option maxHeartbeats 3200000 in
theorem c_ref14_sameQuery (a b : QryE) (ha : a.fams.length ≤ 1048576) (H : Heap) (n : Nat) : Ret Tryz.prog 80 [qryAV a, qryAV b] H n (.bool (decide (a = b))) H n := by
  refine Ret.fin ?_
  refine acalls_of_awp Tryz.func80 rfl Tryz.ntmps80 (congrArg Array.toList Tryz.results80) (by simp) ?_
  simp only [go_sem]
  refine awp_reg zs [2, 3] fun K hK => ?_
  try simp only [go_sem, seval, qryAV, numsAV, bys]
  repeat (first | (refine And.intro ?_ ?_; · first | exact bys_isByte _ | exact fun _ => bys_isByte _) | refine peel ?_)
  refine hK _ _ _ ?_; clear hK K
  refine awp_seq_k fun K1 hK1 => ?_
  refine awp_reg zs [2, 3, 48] fun K hK => ?_
  try simp only [go_sem, seval, List.length_map, map_byteOf]
  repeat (first | (refine And.intro ?_ ?_; · first | exact bys_isByte _ | exact fun _ => bys_isByte _) | refine peel ?_)
  refine hK _ _ _ ?_; clear hK K
  refine awp_cnd (fun hb => ?_) (fun hb => ?_)
  ·skip
   have hne : ¬ a = b := fun e => by subst e; simp at hb
   refine awp_reg zs [4] fun K hK => ?_
   try simp only [go_sem, seval]
   repeat (first | (refine And.intro ?_ ?_; · first | exact bys_isByte _ | exact fun _ => bys_isByte _) | refine peel ?_)
   refine hK _ _ _ ?_; clear hK K
   refine awp_ret ?_
   try simp only [go_sem, seval]
   refine ⟨_, rfl, fun k hk => ?_, Frz.eq ?_ trivial⟩
   · (repeat rw [if_neg (by omega)])
   · congr 1; first | (simp [hne]; done) | (rw [Bool.eq_iff_iff, decide_eq_true_eq, qry_ext]; grind)
  ·skip
   have hl : a.fams.length = b.fams.length := by grind
   have hh : a.frm = b.frm ∧ a.to = b.to ∧ a.pre = b.pre ∧ a.token = b.token := by grind
   refine awp_skip ?_
   try simp only [go_sem, seval]
   refine hK1 _ _ _ ?_
   first | clear hK1 K1 | skip
   refine awp_seq_k fun K2 hK2 => ?_
   refine awp_reg zs [2, 3, 5] fun K hK => ?_
   try simp only [go_sem, seval]
   repeat (first | (refine And.intro ?_ ?_; · first | exact bys_isByte _ | exact fun _ => bys_isByte _) | refine peel ?_)
   refine hK _ _ _ ?_; clear hK K
   refine awp_block ?_
   refine awp_loop (fun T' H' n' => ∃ i : Nat, i ≤ a.fams.length ∧ T' = tl [(2, .loc n 0 0 0 []), (3, .loc (n + 1) 0 0 0 []), (5, .int .i64 i)] ∧ H' = (H.put n (some (.arr 0 10 [qryAV a]))).put (n + 1) (some (.arr 0 10 [qryAV b])) ∧ n' = n + 2 ∧ (a.fams.drop i = b.fams.drop i ↔ a.fams = b.fams)) (fun T' _ _ => a.fams.length - iv (T' 5)) ?_ ?_
   ·skip
    exact ⟨0, Nat.zero_le _, rfl, rfl, rfl, by simp⟩
   intro T1 H1 n1
   rintro ⟨i, hi, rfl, rfl, rfl, hix⟩
   refine awp_seq_k fun K3 hK3 => ?_
   refine awp_reg zs [2, 3, 5, 53] fun K hK => ?_
   try simp only [go_sem, seval, qryAV, numsAV, List.length_map, bys]
   repeat (first | (refine And.intro ?_ ?_; · first | exact bys_isByte _ | exact fun _ => bys_isByte _) | refine peel ?_)
   refine hK _ _ _ ?_; clear hK K
   refine awp_cnd (fun hb => ?_) (fun hb => ?_)
   ·skip
    have hlt : i < a.fams.length := by have := of_decide_eq_true hb; omega
    have hlt2 : i < b.fams.length := by omega
    rw [drop_cons a.fams i hlt, drop_cons b.fams i hlt2, List.cons.injEq] at hix
    have hn1 : nth (a.fams.map fun x => AV.int .i64 x) i = .int .i64 (a.fams.getD i default) := nth_map (fun x => AV.int .i64 x) a.fams i hlt
    have hn2 : nth (b.fams.map fun x => AV.int .i64 x) i = .int .i64 (b.fams.getD i default) := nth_map (fun x => AV.int .i64 x) b.fams i hlt2
    refine awp_skip ?_
    try simp only [go_sem, seval, qryAV, numsAV, bys]
    refine hK3 _ _ _ ?_
    first | clear hK3 K3 | skip
    refine awp_seq_k fun K4 hK4 => ?_
    refine awp_block ?_
    refine awp_drw rfl zs [2, 3, 5, 66] [.q, .q, .m, .q, .q, .q, .q, .m, .q, .q, .q] (by kernel_rfl) (fun _ _ _ _ _ h => h) fun K hK => ?_
    try simp only [go_sem, seval, qryAV, numsAV, List.length_map, bys, Int.toNat_natCast, hn1, hn2]
    repeat (first | (refine And.intro ?_ ?_; · first | exact bys_isByte _ | exact fun _ => bys_isByte _) | refine peel ?_)
    refine hK _ _ _ ?_; clear hK K
    refine awp_cnd (fun hb => ?_) (fun hb => ?_)
    ·skip
     have hne : ¬ a = b := fun e => by subst e; simp at hb
     refine awp_reg zs [4] fun K hK => ?_
     try simp only [go_sem, seval, qryAV, numsAV, bys]
     repeat (first | (refine And.intro ?_ ?_; · first | exact bys_isByte _ | exact fun _ => bys_isByte _) | refine peel ?_)
     refine hK _ _ _ ?_; clear hK K
     refine awp_ret ?_
     try simp only [go_sem, seval, qryAV, numsAV, bys]
     refine ⟨_, rfl, fun k hk => ?_, Frz.eq ?_ trivial⟩
     · (repeat rw [if_neg (by omega)])
     · congr 1; first | (simp [hne]; done) | (rw [Bool.eq_iff_iff, decide_eq_true_eq, qry_ext]; grind)
    ·skip
     have hx : a.fams.getD i default = b.fams.getD i default := by simp at hb; simpa using hb
     have hnext : (a.fams.drop (i + 1) = b.fams.drop (i + 1)) ↔ a.fams = b.fams := by rw [← hix]; simp only [hx, true_and]
     refine awp_skip ?_
     try simp only [go_sem, seval, qryAV, numsAV, bys]
     refine hK4 _ _ _ ?_
     first | clear hK4 K4 | skip
     refine awp_reg1 zs [2, 3, 5] fun K hK => ?_
     try simp only [go_sem, seval, qryAV, numsAV, bys]
     repeat (first | (refine And.intro ?_ ?_; · first | exact bys_isByte _ | exact fun _ => bys_isByte _) | refine peel ?_)
     refine hK _ _ _ ?_; clear hK K
     try simp only [go_sem, seval, qryAV, numsAV, bys]
     exact ⟨⟨i + 1, by omega, by rw [w1 (by omega)], hnext⟩, by rw [w1 (by omega)]; simp; omega⟩
   ·skip
    have hge : i = a.fams.length := by have := of_decide_eq_false hb; omega
    have heq : a.fams = b.fams := by rw [← hix, hge, List.drop_length, hl, List.drop_length]
    refine awp_exit ?_
    try simp only [go_sem, seval, qryAV, numsAV, bys]
    refine hK2 _ _ _ ?_
    first | clear hK2 K2 | skip
    refine awp_reg zs [4] fun K hK => ?_
    try simp only [go_sem, seval]
    repeat (first | (refine And.intro ?_ ?_; · first | exact bys_isByte _ | exact fun _ => bys_isByte _) | refine peel ?_)
    refine hK _ _ _ ?_; clear hK K
    refine awp_ret ?_
    try simp only [go_sem, seval]
    refine ⟨_, rfl, fun k hk => ?_, Frz.eq ?_ trivial⟩
    · (repeat rw [if_neg (by omega)])
    · congr 1; first | (simp [hne]; done) | (rw [Bool.eq_iff_iff, decide_eq_true_eq, qry_ext]; grind)
set_option maxRecDepth 100000 in
set_option maxHeartbeats 6400000 in
theorem c_ref14_Same (a b : CmdE) (ha : a.fits) (H : Heap) (n : Nat) : Ret Tryz.prog 28 [cmdAV a, cmdAV b] H n (.bool (decide (a = b))) H n := by
  have hsza := qryAV_sz a.q
  have hszb := qryAV_sz b.q
  have haa : (qryAV a.q).isAgg = true := rfl
  have hab : (qryAV b.q).isAgg = true := rfl
  have hma : (qryAV a.q).memOK = true := rfl
  have hmb : (qryAV b.q).memOK = true := rfl
  have hca := ha.conds
  have hoa := ha.ops
  have r1 := hsza
  have r2 := hsza
  refine Ret.fin ?_
  refine acalls_of_awp Tryz.func28 rfl Tryz.ntmps28 (congrArg Array.toList Tryz.results28) (by simp) ?_
  simp only [go_sem]
  refine awp_reg zs [2, 3] fun K hK => ?_
  try simp only [go_sem, seval, cmdAV, bys, hsza, hszb]
  repeat (first | (refine And.intro ?_ ?_; · first | exact bys_isByte _ | exact fun _ => bys_isByte _) | refine peel ?_)
  refine hK _ _ _ ?_; clear hK K
  refine awp_seq_k fun K1 hK1 => ?_
  refine awp_reg zs [2, 3, 63] fun K hK => ?_
  try simp only [go_sem, seval, List.length_map, map_byteOf]
  repeat (first | (refine And.intro ?_ ?_; · first | exact bys_isByte _ | exact fun _ => bys_isByte _) | refine peel ?_)
  refine hK _ _ _ ?_; clear hK K
  refine awp_cnd (fun hb => ?_) (fun hb => ?_)
  ·skip
   have hne : ¬ a = b := fun e => by subst e; simp at hb
   refine awp_reg zs [4] fun K hK => ?_
   try simp only [go_sem, seval]
   repeat (first | (refine And.intro ?_ ?_; · first | exact bys_isByte _ | exact fun _ => bys_isByte _) | refine peel ?_)
   refine hK _ _ _ ?_; clear hK K
   refine awp_ret ?_
   try simp only [go_sem, seval]
   refine ⟨_, rfl, fun k hk => ?_, Frz.eq ?_ trivial⟩
   · (repeat rw [if_neg (by omega)])
     try exact hlow k hk
   · congr 1; first | (simp [hne]; done) | (rw [Bool.eq_iff_iff, decide_eq_true_eq, decide_eq_true_eq, cmd_ext]; grind)
  ·skip
   have hl : a.conds.length = b.conds.length ∧ a.ops.length = b.ops.length := by grind
   have hh : a.kind = b.kind ∧ a.client = b.client ∧ a.serial = b.serial ∧ a.row = b.row ∧ a.n = b.n := by grind
   refine awp_skip ?_
   try simp only [go_sem, seval]
   refine hK1 _ _ _ ?_
   first | clear hK1 K1 | skip
   refine awp_seq_k fun K2 hK2 => ?_
   refine awp_reg zs [2, 3, 5] fun K hK => ?_
   try simp only [go_sem, seval]
   repeat (first | (refine And.intro ?_ ?_; · first | exact bys_isByte _ | exact fun _ => bys_isByte _) | refine peel ?_)
   refine hK _ _ _ ?_; clear hK K
   refine awp_block ?_
   refine awp_loop (fun T' H' n' => ∃ i : Nat, i ≤ a.conds.length ∧ T' = tl [(2, .loc n 0 0 0 []), (3, .loc (n + 1) 0 0 0 []), (5, .int .i64 i)] ∧ H' n = some (.arr 0 17 [cmdAV a]) ∧ H' (n + 1) = some (.arr 0 17 [cmdAV b]) ∧ (∀ k, k < n → H' k = H k) ∧ n + 2 ≤ n' ∧ (a.conds.drop i = b.conds.drop i ↔ a.conds = b.conds)) (fun T' _ _ => a.conds.length - iv (T' 5)) ?_ ?_
   ·skip
    exact ⟨0, Nat.zero_le _, rfl, by simp [Heap.put, cmdAV, bys], by simp [Heap.put, cmdAV, bys], fun k hk => by simp only [Heap.put_get]; (repeat rw [if_neg (by omega)]), by omega, by simp⟩
   intro T1 H1 n1
   rintro ⟨i, hi, rfl, r1, r2, hlow, hnn, hix⟩
   refine awp_seq_k fun K3 hK3 => ?_
   refine awp_reg zs [2, 3, 5, 68] fun K hK => ?_
   try simp only [go_sem, seval, cmdAV, List.length_map, bys, r1]
   repeat (first | (refine And.intro ?_ ?_; · first | exact bys_isByte _ | exact fun _ => bys_isByte _) | refine peel ?_)
   refine hK _ _ _ ?_; clear hK K
   refine awp_cnd (fun hb => ?_) (fun hb => ?_)
   ·skip
    have hlt : i < a.conds.length := by have := of_decide_eq_true hb; omega
    have hlt2 : i < b.conds.length := by omega
    rw [drop_cons a.conds i hlt, drop_cons b.conds i hlt2, List.cons.injEq] at hix
    have hn1 : nth (a.conds.map condAV) i = condAV (a.conds.getD i default) := nth_map condAV a.conds i hlt
    have hn2 : nth (b.conds.map condAV) i = condAV (b.conds.getD i default) := nth_map condAV b.conds i hlt2
    have e1 : (n1 = n) = False := by simp; omega
    have e1' : (n = n1) = False := by simp; omega
    have e2 : (n1 = n + 1) = False := by simp; omega
    have e2' : (n + 1 = n1) = False := by simp; omega
    have e3 : (n1 + 1 = n) = False := by simp; omega
    have e3' : (n = n1 + 1) = False := by simp; omega
    have e4' : (n1 = n) = False := by simp; omega
    have hxx : ∀ x y : CondE, (condAV x).sz = (condAV y).sz := fun _ _ => rfl
    refine awp_skip ?_
    try simp only [go_sem, seval, cmdAV, bys]
    refine hK3 _ _ _ ?_
    first | clear hK3 K3 | skip
    refine awp_seq_k fun K4 hK4 => ?_
    refine awp_block ?_
    refine awp_reg zs [2, 3, 5, 6] fun K hK => ?_
    try simp only [go_sem, seval, cmdAV, List.length_map, bys, r1, Int.toNat_natCast, hn1, condAV]
    repeat (first | (refine And.intro ?_ ?_; · first | exact bys_isByte _ | exact fun _ => bys_isByte _) | refine peel ?_)
    refine hK _ _ _ ?_; clear hK K
    refine awp_reg zs [2, 3, 5, 6, 7] fun K hK => ?_
    try simp only [go_sem, seval, cmdAV, List.length_map, bys, r2, Int.toNat_natCast, hn2, condAV, e2']
    repeat (first | (refine And.intro ?_ ?_; · first | exact bys_isByte _ | exact fun _ => bys_isByte _) | refine peel ?_)
    refine hK _ _ _ ?_; clear hK K
    refine awp_reg zs [2, 3, 5, 110] fun K hK => ?_
    try simp only [go_sem, seval, cmdAV, map_byteOf, bys]
    repeat (first | (refine And.intro ?_ ?_; · first | exact bys_isByte _ | exact fun _ => bys_isByte _) | refine peel ?_)
    refine hK _ _ _ ?_; clear hK K
    refine awp_cnd (fun hb => ?_) (fun hb => ?_)
    ·skip
     have hne : ¬ a = b := fun e => by subst e; simp at hb
     refine awp_reg zs [4] fun K hK => ?_
     try simp only [go_sem, seval, cmdAV, bys]
     repeat (first | (refine And.intro ?_ ?_; · first | exact bys_isByte _ | exact fun _ => bys_isByte _) | refine peel ?_)
     refine hK _ _ _ ?_; clear hK K
     refine awp_ret ?_
     try simp only [go_sem, seval, cmdAV, bys]
     refine ⟨_, rfl, fun k hk => ?_, Frz.eq ?_ trivial⟩
     · (repeat rw [if_neg (by omega)])
       try exact hlow k hk
     · congr 1; first | (simp [hne]; done) | (rw [Bool.eq_iff_iff, decide_eq_true_eq, decide_eq_true_eq, cmd_ext]; grind)
    ·skip
     have hx : a.conds.getD i default = b.conds.getD i default := by rw [cond_ext]; grind
     have hnext : (a.conds.drop (i + 1) = b.conds.drop (i + 1)) ↔ a.conds = b.conds := by rw [← hix]; simp only [hx, true_and]
     refine awp_skip ?_
     try simp only [go_sem, seval, cmdAV, bys]
     refine hK4 _ _ _ ?_
     first | clear hK4 K4 | skip
     refine awp_reg1 zs [2, 3, 5] fun K hK => ?_
     try simp only [go_sem, seval, cmdAV, bys]
     repeat (first | (refine And.intro ?_ ?_; · first | exact bys_isByte _ | exact fun _ => bys_isByte _) | refine peel ?_)
     refine hK _ _ _ ?_; clear hK K
     try simp only [go_sem, seval, cmdAV, bys, r1, r2]
     refine ⟨⟨i + 1, by omega, by rw [w1 (by omega)], ?_, ?_, fun k hk => ?_, by omega, hnext⟩, by rw [w1 (by omega)]; simp; omega⟩
     · simp [Heap.put, e1', e3', r1]
     · simp [Heap.put, e2', r2]; try omega
     · (repeat rw [if_neg (by omega)])
       exact hlow k hk
   ·skip
    have hge : i = a.conds.length := by have := of_decide_eq_false hb; omega
    have heq : a.conds = b.conds := by rw [← hix, hge, List.drop_length, hl.1, List.drop_length]
    refine awp_exit ?_
    try simp only [go_sem, seval, cmdAV, bys]
    refine hK2 _ _ _ ?_
    first | clear hK2 K2 | skip
    refine awp_seq_k fun K5 hK5 => ?_
    refine awp_reg zs [2, 3, 8] fun K hK => ?_
    try simp only [go_sem, seval]
    repeat (first | (refine And.intro ?_ ?_; · first | exact bys_isByte _ | exact fun _ => bys_isByte _) | refine peel ?_)
    refine hK _ _ _ ?_; clear hK K
    refine awp_block ?_
    refine awp_loop (fun T' H' n' => ∃ i : Nat, i ≤ a.ops.length ∧ T' = tl [(2, .loc n 0 0 0 []), (3, .loc (n + 1) 0 0 0 []), (8, .int .i64 i)] ∧ H' n = some (.arr 0 17 [cmdAV a]) ∧ H' (n + 1) = some (.arr 0 17 [cmdAV b]) ∧ (∀ k, k < n → H' k = H k) ∧ n + 2 ≤ n' ∧ (a.ops.drop i = b.ops.drop i ↔ a.ops = b.ops)) (fun T' _ _ => a.ops.length - iv (T' 8)) ?_ ?_
    ·skip
     exact ⟨0, Nat.zero_le _, rfl, r1, r2, hlow, hnn, by simp⟩
    intro T1 H1 n1
    rintro ⟨i, hi, rfl, r1, r2, hlow, hnn, hix⟩
    refine awp_seq_k fun K6 hK6 => ?_
    refine awp_reg zs [2, 3, 8, 115] fun K hK => ?_
    try simp only [go_sem, seval, cmdAV, List.length_map, bys, r1]
    repeat (first | (refine And.intro ?_ ?_; · first | exact bys_isByte _ | exact fun _ => bys_isByte _) | refine peel ?_)
    refine hK _ _ _ ?_; clear hK K
    refine awp_cnd (fun hb => ?_) (fun hb => ?_)
    ·skip
     have hlt : i < a.ops.length := by have := of_decide_eq_true hb; omega
     have hlt2 : i < b.ops.length := by omega
     rw [drop_cons a.ops i hlt, drop_cons b.ops i hlt2, List.cons.injEq] at hix
     have hn1 : nth (a.ops.map opAV) i = opAV (a.ops.getD i default) := nth_map opAV a.ops i hlt
     have hn2 : nth (b.ops.map opAV) i = opAV (b.ops.getD i default) := nth_map opAV b.ops i hlt2
     have e1 : (n1 = n) = False := by simp; omega
     have e1' : (n = n1) = False := by simp; omega
     have e2 : (n1 = n + 1) = False := by simp; omega
     have e2' : (n + 1 = n1) = False := by simp; omega
     have e3 : (n1 + 1 = n) = False := by simp; omega
     have e3' : (n = n1 + 1) = False := by simp; omega
     have e4' : (n1 = n) = False := by simp; omega
     have hxx : ∀ x y : OpE, (opAV x).sz = (opAV y).sz := fun _ _ => rfl
     refine awp_skip ?_
     try simp only [go_sem, seval, cmdAV, bys]
     refine hK6 _ _ _ ?_
     first | clear hK6 K6 | skip
     refine awp_seq_k fun K7 hK7 => ?_
     refine awp_block ?_
     refine awp_reg zs [2, 3, 8, 9] fun K hK => ?_
     try simp only [go_sem, seval, cmdAV, List.length_map, bys, r1, Int.toNat_natCast, hn1, opAV]
     repeat (first | (refine And.intro ?_ ?_; · first | exact bys_isByte _ | exact fun _ => bys_isByte _) | refine peel ?_)
     refine hK _ _ _ ?_; clear hK K
     refine awp_reg zs [2, 3, 8, 9, 10] fun K hK => ?_
     try simp only [go_sem, seval, cmdAV, List.length_map, bys, r2, Int.toNat_natCast, hn2, opAV, e2']
     repeat (first | (refine And.intro ?_ ?_; · first | exact bys_isByte _ | exact fun _ => bys_isByte _) | refine peel ?_)
     refine hK _ _ _ ?_; clear hK K
     refine awp_reg zs [2, 3, 8, 171] fun K hK => ?_
     try simp only [go_sem, seval, cmdAV, map_byteOf, bys]
     repeat (first | (refine And.intro ?_ ?_; · first | exact bys_isByte _ | exact fun _ => bys_isByte _) | refine peel ?_)
     refine hK _ _ _ ?_; clear hK K
     refine awp_cnd (fun hb => ?_) (fun hb => ?_)
     ·skip
      have hne : ¬ a = b := fun e => by subst e; simp at hb
      refine awp_reg zs [4] fun K hK => ?_
      try simp only [go_sem, seval, cmdAV, bys]
      repeat (first | (refine And.intro ?_ ?_; · first | exact bys_isByte _ | exact fun _ => bys_isByte _) | refine peel ?_)
      refine hK _ _ _ ?_; clear hK K
      refine awp_ret ?_
      try simp only [go_sem, seval, cmdAV, bys]
      refine ⟨_, rfl, fun k hk => ?_, Frz.eq ?_ trivial⟩
      · (repeat rw [if_neg (by omega)])
        try exact hlow k hk
      · congr 1; first | (simp [hne]; done) | (rw [Bool.eq_iff_iff, decide_eq_true_eq, decide_eq_true_eq, cmd_ext]; grind)
     ·skip
      have hx : a.ops.getD i default = b.ops.getD i default := by rw [op_ext]; grind
      have hnext : (a.ops.drop (i + 1) = b.ops.drop (i + 1)) ↔ a.ops = b.ops := by rw [← hix]; simp only [hx, true_and]
      refine awp_skip ?_
      try simp only [go_sem, seval, cmdAV, bys]
      refine hK7 _ _ _ ?_
      first | clear hK7 K7 | skip
      refine awp_reg1 zs [2, 3, 8] fun K hK => ?_
      try simp only [go_sem, seval, cmdAV, bys]
      repeat (first | (refine And.intro ?_ ?_; · first | exact bys_isByte _ | exact fun _ => bys_isByte _) | refine peel ?_)
      refine hK _ _ _ ?_; clear hK K
      try simp only [go_sem, seval, cmdAV, bys, r1, r2]
      refine ⟨⟨i + 1, by omega, by rw [w1 (by omega)], ?_, ?_, fun k hk => ?_, by omega, hnext⟩, by rw [w1 (by omega)]; simp; omega⟩
      · simp [Heap.put, e1', e3', r1]
      · simp [Heap.put, e2', r2]; try omega
      · (repeat rw [if_neg (by omega)])
        exact hlow k hk
    ·skip
     have hge : i = a.ops.length := by have := of_decide_eq_false hb; omega
     have heq2 : a.ops = b.ops := by rw [← hix, hge, List.drop_length, hl.2, List.drop_length]
     refine awp_exit ?_
     try simp only [go_sem, seval, cmdAV, bys]
     refine hK5 _ _ _ ?_
     first | clear hK5 K5 | skip
     refine awp_reg zs [4] fun K hK => ?_
     try simp only [go_sem, seval, cmdAV, bys, hsza, hszb, haa, hab, r1, r2]
     repeat (first | (refine And.intro ?_ ?_; · first | exact bys_isByte _ | exact fun _ => bys_isByte _) | refine peel ?_)
     refine callK_use Tryz.func80 rfl rfl rfl ((c_ref14_sameQuery a.q b.q ha.fams _ _)) ?_
     try simp only [go_sem, seval]
     repeat (first | (refine And.intro ?_ ?_; · first | exact bys_isByte _ | exact fun _ => bys_isByte _) | refine peel ?_)
     refine hK _ _ _ ?_; clear hK K
     refine awp_ret ?_
     try simp only [go_sem, seval]
     refine ⟨_, rfl, fun k hk => ?_, Frz.eq ?_ trivial⟩
     · (repeat rw [if_neg (by omega)])
       try exact hlow k hk
     · congr 1; first | (simp [hne]; done) | (rw [Bool.eq_iff_iff, decide_eq_true_eq, decide_eq_true_eq, cmd_ext]; grind)
end Go.Proofs.YtifnhpmeoogedaaGreatDoor