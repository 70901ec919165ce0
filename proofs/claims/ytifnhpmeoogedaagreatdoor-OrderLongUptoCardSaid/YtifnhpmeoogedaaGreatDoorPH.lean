/- Own layer: walks through the reader that gives up. Of the program; no condition. -/
import Derived.Test.YtifnhpmeoogedaaGreatDoorPG
import Derived.Test.YtifnhpmeoogedaaGreatDoorPE
import Derived.Test.YtifnhpmeoogedaaGreatDoorPF
set_option linter.unusedSimpArgs false
set_option linter.unusedVariables false
namespace Go.Proofs.YtifnhpmeoogedaaGreatDoor
open Go Go.Sx Go.Rt Go.Proofs
def torn : AV := .iface 119 (.agg [])
theorem c_order_reader_give (kr : Nat) (e : Int) (H : Heap) (n : Nat) : ACalls Tryz.prog 129 [.loc kr 0 0 0 [], .int .i64 e] H n fun res H' n' => H' = H ∧ n' = n ∧ (e = 0 → res = .val (.tup [])) ∧ (e ≠ 0 → res = .pan torn) := by
  refine acalls_of_awp Tryz.func129 rfl Tryz.ntmps129 (congrArg Array.toList Tryz.results129) (by simp) ?_
  simp only [go_sem]
  refine awp_rq zs [5] ?_
  refine awp_cnd (fun hb => ?_) (fun hb => ?_)
  ·skip
   have h1 : e ≠ 0 := by simpa using hb
   refine awp_pan1 zs 2 rfl trivial ?_
   try simp only [go_sem, seval]
   repeat refine peel ?_
   exact fun _ => rfl
  ·skip
   have h1 : e = 0 := by simpa using hb
   refine awp_skip ?_
   try simp only [go_sem, seval]
   exact fun h => absurd h1 h
theorem c_order_reader_byte {b : List UInt8} {p kr : Nat} (hb9 : b.length ≤ 1099511627776) (hp : p ≤ b.length) {H : Heap} {n : Nat} (hR : H kr = some (rdO b p)) : ACalls Tryz.prog 67 [.loc kr 0 0 0 []] H n (RdK torn kr b H n (rav (.int .i64 ·) (rdByte b p))) := by
  have hR1 := hR
  unfold rdO at hR1
  have e1 : IntKind.i64.wrap ((p : Int) + 1) = ((p + 1 : Nat) : Int) := by rw [w64 (by omega) (by omega)]; omega
  have e2 : IntKind.i64.wrap (((p + 1 : Nat) : Int) - 1) = (p : Int) := by rw [w64 (by omega) (by omega)]; omega
  refine acalls_of_awp Tryz.func67 rfl Tryz.ntmps67 (congrArg Array.toList Tryz.results67) (by simp) ?_
  simp only [go_sem]
  refine awp_reg zs [0] fun K hK => ?_
  try simp only [go_sem, seval]
  refine hK _ _ _ ?_; clear hK K
  refine awp_seq_k fun K1 hK1 => ?_
  refine awp_drw rfl zs [0, 12] [.m, .q, .q, .q, .m, .q, .q, .q, .q, .q] (by kernel_rfl) (fun _ _ _ _ _ h => h) fun K hK => ?_
  try simp only [go_sem, seval, hR1, List.length_map]
  refine hK _ _ _ ?_; clear hK K
  refine awp_cnd (fun hb => ?_) (fun hb => ?_)
  ·skip
   have h1 : b.length ≤ p := by have := of_decide_eq_true hb; omega
   refine awp_pan1 zs 2 rfl trivial ?_
   try simp only [go_sem, seval]
   exact RdK.none (by unfold rdByte; rw [if_pos h1]; rfl) (Nat.le_refl _) fun _ _ _ => rfl
  ·skip
   have h1 : ¬ b.length ≤ p := by have := of_decide_eq_false hb; omega
   have hnth : nth (b.map byteAV) p = byteAV (b.getD p 0) := nth_map byteAV b _ (by omega)
   have e3 : IntKind.i64.wrap (((b.getD p 0).toNat : Nat) : Int) = ((b.getD p 0).toNat : Int) := w64 (by omega) (by have := (b.getD p 0).toNat_lt; omega)
   refine awp_skip ?_
   try simp only [go_sem, seval]
   refine hK1 _ _ _ ?_
   first | clear hK1 K1 | skip
   refine awp_reg zs [0] fun K hK => ?_
   try simp only [go_sem, seval, hR1, e1]
   refine hK _ _ _ ?_; clear hK K
   refine awp_drw rfl zs [2] [.m, .q, .q, .q, .m, .q, .q, .q, .q, .q, .q, .q, .q] (by kernel_rfl) (fun _ _ _ _ _ h => h) fun K hK => ?_
   try simp only [go_sem, seval, e2, List.length_map, hnth, Int.toNat_natCast, byteAV, e3]
   repeat (first | (refine And.intro ?_ ?_; · first | exact ⟨by omega, by omega⟩) | refine peel ?_)
   refine hK _ _ _ ?_; clear hK K
   refine awp_ret ?_
   try simp only [go_sem, seval]
   exact RdK.some (by unfold rdByte; rw [if_neg h1]; rfl) rfl rfl
theorem c_order_reader_uint {b : List UInt8} {p kr : Nat} (hb9 : b.length ≤ 1099511627776) (hp : p ≤ b.length) {H : Heap} {n : Nat} (hR : H kr = some (rdO b p)) : ACalls Tryz.prog 69 [.loc kr 0 0 0 []] H n (RdK torn kr b H n (rav (.int .i64 ·) (rdUint b p))) := by
  have hR1 := hR
  unfold rdO at hR1
  obtain ⟨hu1, hu2, hu3⟩ := ruB_lt b p
  refine acalls_of_awp Tryz.func69 rfl Tryz.ntmps69 (congrArg Array.toList Tryz.results69) (by simp) ?_
  simp only [go_sem]
  refine awp_reg zs [0] fun K hK => ?_
  try simp only [go_sem, seval]
  refine hK _ _ _ ?_; clear hK K
  refine awp_drw rfl zs [0, 3, 4, 5] [.m, .q, .q, .q, .m, .q, .q, .q, .c, .m, .q, .q, .q, .q, .q, .q] (by kernel_rfl) (fun _ _ _ _ _ h => h) fun K hK => ?_
  try simp only [go_sem, seval, hR1]
  refine callQG_use Tryz.func128 rfl rfl rfl (fun _ n => (c_wire_ReadUint b p hb9 (by omega) _ _)) ?_
  try simp only [go_sem, seval, ruAV]
  refine hK _ _ _ ?_; clear hK K
  refine awp_reg zs [0, 3, 4] fun K hK => ?_
  try simp only [go_sem, seval]
  refine callK_useK (args' := [.loc kr 0 0 0 [], .int .i64 (ruB b p).2.2]) Tryz.func129 rfl rfl rfl (c_order_reader_give kr _ _ _) ?_ ?_
  rotate_left
  · rintro q H' n' ⟨rfl, rfl, h1, h2⟩
    have h3 : (ruB b p).2.2 ≠ 0 := fun h => by have := h1 h; cases this
    have h4 := h2 h3
    cases h4
    exact RdK.none (by unfold rdUint; rw [if_pos h3]; rfl) (Nat.le_refl _) fun _ _ _ => rfl
  rintro rr H' n' ⟨rfl, rfl, h1, h2⟩
  have h3 : (ruB b p).2.2 = 0 := Classical.byContradiction fun h => by have := h2 h; cases this
  cases h1 h3
  refine hK _ _ _ ?_; clear hK K
  refine awp_reg zs [3] fun K hK => ?_
  try simp only [go_sem, seval, hR1]
  refine hK _ _ _ ?_; clear hK K
  refine awp_seq_k fun K1 hK1 => ?_
  refine awp_reg zs [3, 27] fun K hK => ?_
  try simp only [go_sem, seval]
  refine hK _ _ _ ?_; clear hK K
  refine awp_cnd (fun hb => ?_) (fun hb => ?_)
  ·skip
   have h4 : 9223372036854775807 < (ruB b p).1 := by have := of_decide_eq_true hb; omega
   refine awp_pan1 zs 2 rfl trivial ?_
   try simp only [go_sem, seval]
   exact RdK.none (by unfold rdUint; rw [if_neg (by simp [h3]), if_pos h4]; rfl) (Nat.le_refl _) fun k _ hk => by simp [Heap.put, hk]
  ·skip
   have h4 : ¬ 9223372036854775807 < (ruB b p).1 := by have := of_decide_eq_false hb; omega
   have e3 : IntKind.i64.wrap ((ruB b p).1 : Int) = ((ruB b p).1 : Int) := w64 (by omega) (by omega)
   refine awp_skip ?_
   try simp only [go_sem, seval]
   refine hK1 _ _ _ ?_
   first | clear hK1 K1 | skip
   refine awp_reg zs [2] fun K hK => ?_
   try simp only [go_sem, seval, e3]
   refine hK _ _ _ ?_; clear hK K
   refine awp_ret ?_
   try simp only [go_sem, seval]
   exact RdK.some (by unfold rdUint; rw [if_neg (by simp [h3]), if_neg h4]; rfl) rfl rfl
theorem c_slices_Clip (b : List UInt8) (H : Heap) (n : Nat) : Ret Tryz.prog 64 [bys b] H n (bys b) H n := by
  refine acalls_of_awp Tryz.func64 rfl Tryz.ntmps64 (congrArg Array.toList Tryz.results64) (by simp) ?_
  simp only [go_sem]
  refine awp_reg zs [0] fun K hK => ?_
  try simp only [go_sem, seval]
  refine hK _ _ _ ?_; clear hK K
  refine awp_reg zs [2] fun K hK => ?_
  try simp only [go_sem, seval, List.length_map, Option.getD_some, Option.getD_none, Int.toNat_natCast, List.drop_zero]
  repeat (first | (refine And.intro ?_ ?_; · first | exact ⟨by omega, by omega, by omega, fun m h => by cases h; exact ⟨rfl, by omega, by omega⟩⟩) | refine peel ?_)
  refine hK _ _ _ ?_; clear hK K
  refine awp_ret ?_
  try simp only [go_sem, seval]
  simp [List.take_of_length_le]
theorem c_order_reader_bytes {b : List UInt8} {p kr : Nat} (hb9 : b.length ≤ 1099511627776) (hp : p ≤ b.length) {H : Heap} {n : Nat} (hR : H kr = some (rdO b p)) : ACalls Tryz.prog 71 [.loc kr 0 0 0 []] H n (RdK torn kr b H n (rav bys (rdBytes b p))) := by
  have hR1 := hR
  unfold rdO at hR1
  refine acalls_of_awp Tryz.func71 rfl Tryz.ntmps71 (congrArg Array.toList Tryz.results71) (by simp) ?_
  simp only [go_sem]
  refine awp_reg zs [0] fun K hK => ?_
  try simp only [go_sem, seval]
  refine hK _ _ _ ?_; clear hK K
  refine awp_drw rfl zs [0, 3, 4, 5] [.m, .q, .q, .q, .m, .q, .q, .q, .m, .q, .q, .q, .q, .c, .m, .q, .q, .q, .q, .q, .q] (by kernel_rfl) (fun _ _ _ _ _ h => h) fun K hK => ?_
  try simp only [go_sem, seval, hR1, List.length_map]
  refine callQG_use Tryz.func130 rfl rfl rfl (fun _ n => (c_wire_ReadBytes b p b.length hb9 (by omega) hb9 _ _)) ?_
  try simp only [go_sem, seval, rbAV]
  refine hK _ _ _ ?_; clear hK K
  refine awp_reg zs [0, 3, 4] fun K hK => ?_
  try simp only [go_sem, seval]
  refine callK_useK (args' := [.loc kr 0 0 0 [], .int .i64 (rbB b p b.length).2.2]) Tryz.func129 rfl rfl rfl (c_order_reader_give kr _ _ _) ?_ ?_
  rotate_left
  · rintro q H' n' ⟨rfl, rfl, h1, h2⟩
    have h3 : (rbB b p b.length).2.2 ≠ 0 := fun h => by have := h1 h; cases this
    have h4 := h2 h3
    cases h4
    exact RdK.none (by unfold rdBytes; rw [if_pos h3]; rfl) (Nat.le_refl _) fun _ _ _ => rfl
  rintro rr H' n' ⟨rfl, rfl, h1, h2⟩
  have h3 : (rbB b p b.length).2.2 = 0 := Classical.byContradiction fun h => by have := h2 h; cases this
  cases h1 h3
  refine hK _ _ _ ?_; clear hK K
  refine awp_reg zs [3] fun K hK => ?_
  try simp only [go_sem, seval, hR1]
  refine hK _ _ _ ?_; clear hK K
  refine awp_reg zs [2] fun K hK => ?_
  try simp only [go_sem, seval]
  refine callK_use Tryz.func64 rfl rfl rfl ((c_slices_Clip (rbB b p b.length).1 _ _)) ?_
  try simp only [go_sem, seval]
  refine hK _ _ _ ?_; clear hK K
  refine awp_ret ?_
  try simp only [go_sem, seval]
  exact RdK.some (by unfold rdBytes; rw [if_neg (by simp [h3])]; rfl) rfl rfl
theorem c_order_reader_count {b : List UInt8} {p kr : Nat} (hb9 : b.length ≤ 1099511627776) (hp : p ≤ b.length) {H : Heap} {n : Nat} (hR : H kr = some (rdO b p)) : ACalls Tryz.prog 93 [.loc kr 0 0 0 []] H n (RdK torn kr b H n (rav (fun x : Nat => .int .i64 x) (rdCount b p))) := by
  refine acalls_of_awp Tryz.func93 rfl Tryz.ntmps93 (congrArg Array.toList Tryz.results93) (by simp) ?_
  simp only [go_sem]
  refine awp_rq zs [0] ?_
  refine awp_reg zs [0, 3] fun K hK => ?_
  try simp only [go_sem, seval]
  refine callK_useK (args' := [.loc kr 0 0 0 []]) Tryz.func69 rfl rfl rfl (c_order_reader_uint hb9 hp hR) ?_ ?_
  rotate_left
  · intro q H' n' h
    obtain ⟨h1, rfl, h2, h3⟩ := h.die
    exact RdK.none (by unfold rdCount; rw [h1]; rfl) h2 h3
  rintro rr H' n' h
  obtain ⟨x, q, h1, rfl, rfl, rfl⟩ := h.get
  obtain ⟨hq1, hq2, hq3, hq4⟩ := rdUint_le h1
  have e1 : IntKind.i64.wrap ((b.length : Int) - (q : Int)) = ((b.length - q : Nat) : Int) := by rw [w64 (by omega) (by omega)]; omega
  try simp only [go_sem, seval]
  refine hK _ _ _ ?_; clear hK K
  refine awp_seq_k fun K1 hK1 => ?_
  refine awp_drw rfl zs [3, 17] [.m, .m, .q, .q, .q, .q, .m, .q, .q, .q, .q, .q] (by kernel_rfl) (fun _ _ _ _ _ h => h) fun K hK => ?_
  try simp only [go_sem, seval, e1, rdO, List.length_map]
  refine hK _ _ _ ?_; clear hK K
  refine awp_cnd (fun hb => ?_) (fun hb => ?_)
  ·skip
   have h2 : b.length < q + x.toNat := by have := of_decide_eq_true hb; omega
   refine awp_pan1 zs 2 rfl trivial ?_
   try simp only [go_sem, seval]
   exact RdK.none (by unfold rdCount; rw [h1]; show rav _ (if b.length < q + x.toNat then none else _) = _; rw [if_pos h2]; rfl) (Nat.le_refl _) fun k _ hk => by simp [Heap.put, hk]
  ·skip
   have h2 : ¬ b.length < q + x.toNat := by have := of_decide_eq_false hb; omega
   refine awp_skip ?_
   try simp only [go_sem, seval]
   refine hK1 _ _ _ ?_
   first | clear hK1 K1 | skip
   refine awp_rq zs [2] ?_
   refine awp_ret ?_
   try simp only [go_sem, seval]
   exact RdK.some (v := .int .i64 x) (p := q) (by unfold rdCount; rw [h1]; show rav _ (if b.length < q + x.toNat then none else _) = _; rw [if_neg h2]; show some (AV.int .i64 ((x.toNat : Nat) : Int), q) = _; rw [Int.toNat_of_nonneg hq3]) rfl rfl
theorem c_order_reader_delta {b : List UInt8} {p kr : Nat} (hb9 : b.length ≤ 1099511627776) (hp : p ≤ b.length) {H : Heap} {n : Nat} (hR : H kr = some (rdO b p)) : ACalls Tryz.prog 131 [.loc kr 0 0 0 []] H n (RdK torn kr b H n (rav (.int .i64 ·) (rdDelta b p))) := by
  have hR1 := hR
  unfold rdO at hR1
  have e1 : IntKind.i64.wrap ((p : Int) + 8) = ((p + 8 : Nat) : Int) := by rw [w64 (by omega) (by omega)]; omega
  have e2 : IntKind.i64.wrap (((p + 8 : Nat) : Int) - 8) = (p : Int) := by rw [w64 (by omega) (by omega)]; omega
  refine acalls_of_awp Tryz.func131 rfl Tryz.ntmps131 (congrArg Array.toList Tryz.results131) (by simp) ?_
  simp only [go_sem]
  refine awp_reg zs [0] fun K hK => ?_
  try simp only [go_sem, seval]
  refine hK _ _ _ ?_; clear hK K
  refine awp_seq_k fun K1 hK1 => ?_
  refine awp_drw rfl zs [0, 16] [.m, .q, .q, .q, .q, .m, .q, .q, .q, .q, .q] (by kernel_rfl) (fun _ _ _ _ _ h => h) fun K hK => ?_
  try simp only [go_sem, seval, hR1, e1, List.length_map]
  refine hK _ _ _ ?_; clear hK K
  refine awp_cnd (fun hb => ?_) (fun hb => ?_)
  ·skip
   have h1 : b.length < p + 8 := by have := of_decide_eq_true hb; omega
   refine awp_pan1 zs 2 rfl trivial ?_
   try simp only [go_sem, seval]
   exact RdK.none (by unfold rdDelta; rw [if_pos h1]; rfl) (Nat.le_refl _) fun _ _ _ => rfl
  ·skip
   have h1 : ¬ b.length < p + 8 := by have := of_decide_eq_false hb; omega
   have e5 : List.drop p (List.take (p + 8) (b.map byteAV)) = ((b.drop p).take 8).map byteAV := by rw [List.take_add, List.drop_append_of_le_length (by simp; omega), List.drop_take_self, List.nil_append, ← List.map_drop, ← List.map_take]
   have e6 : ((b.drop p).take 8).length = 8 := by simp; omega
   refine awp_skip ?_
   try simp only [go_sem, seval]
   refine hK1 _ _ _ ?_
   first | clear hK1 K1 | skip
   refine awp_reg zs [0] fun K hK => ?_
   try simp only [go_sem, seval, hR1, e1]
   refine hK _ _ _ ?_; clear hK K
   refine awp_reg zs [0, 3] fun K hK => ?_
   try simp only [go_sem, seval]
   refine hK _ _ _ ?_; clear hK K
   refine awp_seq_k fun K2 hK2 => ?_
   refine awp_drw rfl zs [3, 39, 40, 41] [.m, .q, .q, .q, .m, .q, .q, .q, .q, .m, .q, .q, .q, .q, .q, .m] (by kernel_rfl) (fun _ _ _ _ _ h => h) fun K hK => ?_
   try simp only [go_sem, seval, e2, List.length_map, e5, e6, Option.getD_some, Int.toNat_natCast]
   repeat (first | (refine And.intro ?_ ?_; · first | exact ⟨by omega, by omega, by omega, fun m h => h.elim⟩) | refine peel ?_)
   refine hK _ _ _ ?_; clear hK K
   refine awp_block ?_
   refine awp_loop (fun T' H' n' => ∃ i : Nat, i ≤ 8 ∧ T' = tl [(3, .int .u64 (be8 (((b.drop p).take 8).take i))), (39, .sl 1 (((b.drop p).take 8).map byteAV)), (40, .int .i64 8), (41, .int .i64 i)] ∧ H' = H.put kr (some (rdO b (p + 8))) ∧ n' = n) (fun T' _ _ => 8 - iv (T' 41)) ?_ ?_
   ·skip
    exact ⟨0, by omega, rfl, rfl, rfl⟩
   intro T1 H1 n1
   rintro ⟨i, hi, rfl, rfl, rfl⟩
   refine awp_reg zs [3, 39, 40, 41, 42] fun K hK => ?_
   try simp only [go_sem, seval]
   refine hK _ _ _ ?_; clear hK K
   refine awp_seq_k fun K3 hK3 => ?_
   refine awp_cnd (fun hb => ?_) (fun hb => ?_)
   ·skip
    have hlt : i < 8 := by have := of_decide_eq_true hb; omega
    have hnth : nth (((b.drop p).take 8).map byteAV) i = byteAV (((b.drop p).take 8).getD i default) := nth_map byteAV _ _ (by omega)
    have hts := take_snoc ((b.drop p).take 8) (show i < ((b.drop p).take 8).length by omega)
    generalize ((b.drop p).take 8).getD i default = c at *
    have hcl := c.toNat_lt
    have hvl := be8_lt (((b.drop p).take 8).take i)
    have hvl2 : 256 ^ (((b.drop p).take 8).take i).length ≤ 256 ^ 7 := Nat.pow_le_pow_right (by omega) (by rw [List.length_take]; omega)
    have e7 : IntKind.u64.wrap ((be8 (((b.drop p).take 8).take i) : Int) * 2 ^ (min 8 64)) = ((be8 (((b.drop p).take 8).take i) * 2 ^ 8 : Nat) : Int) := by rw [IntKind.wrap_u64, show (2 : Int) ^ (min 8 64) = 256 by decide]; omega
    have e8 : IntKind.u64.wrap ((c.toNat : Nat) : Int) = (c.toNat : Int) := by rw [IntKind.wrap_u64]; omega
    have e9 := or64' (x := c.toNat) (m := be8 (((b.drop p).take 8).take i)) (k := 8) (by omega) (by omega)
    refine awp_skip ?_
    try simp only [go_sem, seval]
    refine hK3 _ _ _ ?_
    first | clear hK3 K3 | skip
    refine awp_seq_k fun K4 hK4 => ?_
    refine awp_block ?_
    refine awp_reg zs [3, 5, 39, 40, 41] fun K hK => ?_
    try simp only [go_sem, seval, List.length_map, hnth, Int.toNat_natCast, byteAV]
    repeat refine peel ?_
    refine hK _ _ _ ?_; clear hK K
    refine awp_reg1 zs [3, 39, 40, 41] fun K hK => ?_
    try simp only [go_sem, seval, e7, e8, e9]
    refine hK _ _ _ ?_; clear hK K
    try simp only [go_sem, seval]
    refine hK4 _ _ _ ?_
    first | clear hK4 K4 | skip
    refine awp_reg1 zs [3, 39, 40, 41] fun K hK => ?_
    try simp only [go_sem, seval]
    refine hK _ _ _ ?_; clear hK K
    try simp only [go_sem, seval]
    exact ⟨⟨i + 1, by omega, by rw [hts, be8_snoc, w1 (by omega)]⟩, by rw [w1 (by omega)]; simp; omega⟩
   ·skip
    have hi8 : i = 8 := by have := of_decide_eq_false hb; omega
    subst hi8
    have htk : ((b.drop p).take 8).take 8 = (b.drop p).take 8 := List.take_of_length_le (by omega)
    refine awp_exit ?_
    try simp only [go_sem, seval]
    refine hK2 _ _ _ ?_
    first | clear hK2 K2 | skip
    refine awp_reg zs [2] fun K hK => ?_
    try simp only [go_sem, seval, htk]
    refine hK _ _ _ ?_; clear hK K
    refine awp_ret ?_
    try simp only [go_sem, seval]
    exact RdK.some (by unfold rdDelta; rw [if_neg h1]; rfl) rfl rfl
end Go.Proofs.YtifnhpmeoogedaaGreatDoor
namespace Go.Proofs.YtifnhpmeoogedaaGreatDoor
open Go Go.Sx Go.Rt Go.Proofs
set_option maxHeartbeats 1600000 in
theorem c_order_conds {b : List UInt8} {p kr : Nat} (hb9 : b.length ≤ 1048576) (hp : p ≤ b.length) {H : Heap} {n : Nat} (hk : kr < n) (hR : H kr = some (rdO b p)) : ACalls Tryz.prog 72 [.loc kr 0 0 0 []] H n (RdK torn kr b H n (rav (fun l : List CondE => .sl 4 (l.map condAV)) (rdList rdCond b p))) := by
  have hb9' := hb9
  replace hb9 : b.length ≤ 1099511627776 := by omega
  have k1 := hR
  have k2 := hR
  refine RdK.fin hk ?_
  refine acalls_of_awp Tryz.func72 rfl Tryz.ntmps72 (congrArg Array.toList Tryz.results72) (by simp) ?_
  simp only [go_sem]
  refine awp_reg zs [0] fun K hK => ?_
  try simp only [go_sem, seval]
  refine hK _ _ _ ?_; clear hK K
  refine awp_reg zs [0, 3] fun K hK => ?_
  try simp only [go_sem, seval]
  refine hK _ _ _ ?_; clear hK K
  refine awp_seq_k fun K1 hK1 => ?_
  refine awp_reg zs [0, 3, 5, 6] fun K hK => ?_
  try simp only [go_sem, seval]
  refine callK_useK (args' := [.loc kr 0 0 0 []]) Tryz.func93 rfl rfl rfl (c_order_reader_count hb9 hp hR) ?_ ?_
  rotate_left
  · intro e9 H9 n9 h9
    obtain ⟨h1, rfl, h2, h3⟩ := h9.die
    exact .inr ⟨by unfold rdList; rw [h1]; rfl, rfl, h2, h3⟩
  rintro rr H9 n9 h9
  obtain ⟨cnt, q0, g0, rfl, rfl, rfl⟩ := h9.get
  have hq0 := rdCount_le g0
  refine hK _ _ _ ?_; clear hK K
  refine awp_block ?_
  refine awp_adopt_tmp 3 4 rfl ?_
  refine awp_sel [0, 3, 5, 6] ?_
  simp only [go_sem, seval]
  refine awp_loop (fun T' H' n' => ∃ (i q ver : Nat) (acc : List CondE), i ≤ cnt ∧ acc.length = i ∧ q ≤ b.length ∧ T' = tl [(0, .loc kr 0 0 0 []), (3, .osl n ver 0 acc.length), (5, .int .i64 cnt), (6, .int .i64 i)] ∧ H' kr = some (rdO b q) ∧ H' n = some (.arr ver 4 (acc.map condAV)) ∧ (∀ k, k < n → k ≠ kr → H' k = H k) ∧ n' = n + 1 ∧ rdMany rdCond b (cnt - i) q acc = rdList rdCond b p) (fun T' _ _ => cnt - iv (T' 6)) ?_ ?_
  ·skip
   refine ⟨0, q0, 0, [], Nat.zero_le _, rfl, by omega, rfl, by simp [Heap.put]; omega, by simp [Heap.put], fun k hk2 hkr => by simp [Heap.put, hkr]; omega, rfl, ?_⟩
   unfold rdList; rw [g0]; rfl
  intro T1 H1 n1
  rintro ⟨i, q, ver, acc, hi, hal, hq, rfl, k1, k2, k3, rfl, hix⟩
  skip
  refine awp_reg zs [0, 3, 5, 6, 7] fun K hK => ?_
  try simp only [go_sem, seval]
  refine hK _ _ _ ?_; clear hK K
  refine awp_seq_k fun K2 hK2 => ?_
  refine awp_cnd (fun hb => ?_) (fun hb => ?_)
  ·skip
   have hlt : i < cnt := by have := of_decide_eq_true hb; omega
   have hkn : (n = kr) = False := by simp; omega
   have hkn' : (kr = n) = False := by simp; omega
   refine awp_skip ?_
   try simp only [go_sem, seval]
   refine hK2 _ _ _ ?_
   first | clear hK2 K2 | skip
   refine awp_seq_k fun K3 hK3 => ?_
   refine awp_block ?_
   refine awp_reg1 zs [0, 3, 5, 6] fun K hK => ?_
   try simp only [go_sem, seval]
   repeat (first | (refine And.intro ?_ ?_; · first | exact ⟨rfl, by simp [AV.sz, AV.szs, AV.memOK]⟩ | exact ⟨by omega, .inr trivial, by omega, by omega⟩) | refine peel ?_)
   refine callK_useK (args' := [.loc kr 0 0 0 []]) Tryz.func67 rfl rfl rfl (c_order_reader_byte hb9 hq k1) ?_ ?_
   rotate_left
   · intro e9 H9 n9 h9
     obtain ⟨h1, rfl, h2, h3⟩ := h9.die
     have hno : rdCond b q = none := by unfold rdCond; simp [h1]
     rw [rdMany_succ rdCond b hlt, hno] at hix
     refine .inr ⟨by rw [← hix]; rfl, rfl, by omega, fun k hk hkr => (h3 k (by omega) hkr).trans ?_⟩
     first | exact k3 k hk hkr | (simp only [Heap.put_get]; (repeat rw [if_neg (by omega)]); exact k3 k hk hkr)
   rintro rr H9 n9 h9
   obtain ⟨x1, q1, g1, rfl, rfl, rfl⟩ := h9.get
   have hq1 := rdByte_le g1
   try simp only [go_sem, seval, AV.memOK.eq_5]
   repeat (first | (refine And.intro ?_ ?_; · first | exact ⟨rfl, by simp [AV.sz, AV.szs, AV.memOK]⟩ | exact ⟨by omega, .inr trivial, by omega, by omega⟩) | refine peel ?_)
   refine callK_useK (args' := [.loc kr 0 0 0 []]) Tryz.func67 rfl rfl rfl (c_order_reader_byte hb9 (hq1.1) (Heap.put_same _ _ _)) ?_ ?_
   rotate_left
   · intro e9 H9 n9 h9
     obtain ⟨h1, rfl, h2, h3⟩ := h9.die
     have hno : rdCond b q = none := by unfold rdCond; simp [g1, h1]
     rw [rdMany_succ rdCond b hlt, hno] at hix
     refine .inr ⟨by rw [← hix]; rfl, rfl, by omega, fun k hk hkr => (h3 k (by omega) hkr).trans ?_⟩
     first | exact k3 k hk hkr | (simp only [Heap.put_get]; (repeat rw [if_neg (by omega)]); exact k3 k hk hkr)
   rintro rr H9 n9 h9
   obtain ⟨x2, q2, g2, rfl, rfl, rfl⟩ := h9.get
   have hq2 := rdByte_le g2
   try simp only [go_sem, seval, AV.memOK.eq_5]
   repeat (first | (refine And.intro ?_ ?_; · first | exact ⟨rfl, by simp [AV.sz, AV.szs, AV.memOK]⟩ | exact ⟨by omega, .inr trivial, by omega, by omega⟩) | refine peel ?_)
   refine callK_useK (args' := [.loc kr 0 0 0 []]) Tryz.func71 rfl rfl rfl (c_order_reader_bytes hb9 (hq2.1) (Heap.put_same _ _ _)) ?_ ?_
   rotate_left
   · intro e9 H9 n9 h9
     obtain ⟨h1, rfl, h2, h3⟩ := h9.die
     have hno : rdCond b q = none := by unfold rdCond; simp [g1, g2, h1]
     rw [rdMany_succ rdCond b hlt, hno] at hix
     refine .inr ⟨by rw [← hix]; rfl, rfl, by omega, fun k hk hkr => (h3 k (by omega) hkr).trans ?_⟩
     first | exact k3 k hk hkr | (simp only [Heap.put_get]; (repeat rw [if_neg (by omega)]); exact k3 k hk hkr)
   rintro rr H9 n9 h9
   obtain ⟨x3, q3, g3, rfl, rfl, rfl⟩ := h9.get
   have hq3 := rdBytes_le g3
   try simp only [go_sem, seval, AV.memOK.eq_5, bys]
   repeat (first | (refine And.intro ?_ ?_; · first | exact ⟨rfl, by simp [AV.sz, AV.szs, AV.memOK]⟩ | exact ⟨by omega, .inr trivial, by omega, by omega⟩) | refine peel ?_)
   refine callK_useK (args' := [.loc kr 0 0 0 []]) Tryz.func71 rfl rfl rfl (c_order_reader_bytes hb9 (hq3.1) (Heap.put_same _ _ _)) ?_ ?_
   rotate_left
   · intro e9 H9 n9 h9
     obtain ⟨h1, rfl, h2, h3⟩ := h9.die
     have hno : rdCond b q = none := by unfold rdCond; simp [g1, g2, g3, h1]
     rw [rdMany_succ rdCond b hlt, hno] at hix
     refine .inr ⟨by rw [← hix]; rfl, rfl, by omega, fun k hk hkr => (h3 k (by omega) hkr).trans ?_⟩
     first | exact k3 k hk hkr | (simp only [Heap.put_get]; (repeat rw [if_neg (by omega)]); exact k3 k hk hkr)
   rintro rr H9 n9 h9
   obtain ⟨x4, q4, g4, rfl, rfl, rfl⟩ := h9.get
   have hq4 := rdBytes_le g4
   try simp only [go_sem, seval, k2, List.length_map, AV.memOK.eq_5, bys, hkn]
   repeat (first | (refine And.intro ?_ ?_; · first | exact ⟨rfl, by simp [AV.sz, AV.szs, AV.memOK]⟩ | exact ⟨by omega, .inr trivial, by omega, by omega⟩) | refine peel ?_)
   refine hK _ _ _ ?_; clear hK K
   try simp only [go_sem, seval]
   refine hK3 _ _ _ ?_
   first | clear hK3 K3 | skip
   refine awp_reg1 zs [0, 3, 5, 6] fun K hK => ?_
   try simp only [go_sem, seval]
   refine hK _ _ _ ?_; clear hK K
   try simp only [go_sem, seval]
   refine ⟨⟨i + 1, q4, ver + 1, acc ++ [⟨x1, x2, x3, x4⟩], by omega, by simp [hal], hq4.1, by rw [w1 (by omega)]; simp, by simp [hkn'], ?_, fun k hk2 hkr => ?_, ?_⟩, by rw [w1 (by omega)]; simp; omega⟩
   · simp [Heap.put, condAV, bys, List.take_of_length_le]
   · have h0 : k ≠ n := by omega
     simp [Heap.put, h0, hkr, k3 k hk2 hkr]
   · rw [← hix, rdMany_succ rdCond b hlt]; unfold rdCond; simp [g1, g2, g3, g4]
  ·skip
   have hge : i = cnt := by have := of_decide_eq_false hb; omega
   subst hge
   rw [Nat.sub_self] at hix
   refine awp_exit ?_
   try simp only [go_sem, seval]
   refine hK1 _ _ _ ?_
   first | clear hK1 K1 | skip
   refine awp_reg zs [2] fun K hK => ?_
   try simp only [go_sem, seval]
   refine hK _ _ _ ?_; clear hK K
   refine awp_ret ?_
   try simp only [go_sem, seval, k1]
   refine .inl ⟨_, .sl 4 (acc.map condAV), q, rfl, by rw [← hix]; rfl, (by first | exact k1 | rfl), k3, .osl k2 (Nat.le_refl _) (by simp) ?_⟩
   rw [List.drop_zero, List.take_of_length_le (by simp)]
   exact frzL_kl _ (kls_map condAV (fun x => kl_condAV x n) acc)
set_option maxHeartbeats 1600000 in
theorem c_order_ops {b : List UInt8} {p kr : Nat} (hb9 : b.length ≤ 1048576) (hp : p ≤ b.length) {H : Heap} {n : Nat} (hk : kr < n) (hR : H kr = some (rdO b p)) : ACalls Tryz.prog 73 [.loc kr 0 0 0 []] H n (RdK torn kr b H n (rav (fun l : List OpE => .sl 6 (l.map opAV)) (rdList rdOp b p))) := by
  have hb9' := hb9
  replace hb9 : b.length ≤ 1099511627776 := by omega
  have k1 := hR
  have k2 := hR
  refine RdK.fin hk ?_
  refine acalls_of_awp Tryz.func73 rfl Tryz.ntmps73 (congrArg Array.toList Tryz.results73) (by simp) ?_
  simp only [go_sem]
  refine awp_reg zs [0] fun K hK => ?_
  try simp only [go_sem, seval]
  refine hK _ _ _ ?_; clear hK K
  refine awp_reg zs [0, 3] fun K hK => ?_
  try simp only [go_sem, seval]
  refine hK _ _ _ ?_; clear hK K
  refine awp_seq_k fun K1 hK1 => ?_
  refine awp_reg zs [0, 3, 5, 6] fun K hK => ?_
  try simp only [go_sem, seval]
  refine callK_useK (args' := [.loc kr 0 0 0 []]) Tryz.func93 rfl rfl rfl (c_order_reader_count hb9 hp hR) ?_ ?_
  rotate_left
  · intro e9 H9 n9 h9
    obtain ⟨h1, rfl, h2, h3⟩ := h9.die
    exact .inr ⟨by unfold rdList; rw [h1]; rfl, rfl, h2, h3⟩
  rintro rr H9 n9 h9
  obtain ⟨cnt, q0, g0, rfl, rfl, rfl⟩ := h9.get
  have hq0 := rdCount_le g0
  refine hK _ _ _ ?_; clear hK K
  refine awp_block ?_
  refine awp_adopt_tmp 3 6 rfl ?_
  refine awp_sel [0, 3, 5, 6] ?_
  simp only [go_sem, seval]
  refine awp_loop (fun T' H' n' => ∃ (i q ver : Nat) (acc : List OpE), i ≤ cnt ∧ acc.length = i ∧ q ≤ b.length ∧ T' = tl [(0, .loc kr 0 0 0 []), (3, .osl n ver 0 acc.length), (5, .int .i64 cnt), (6, .int .i64 i)] ∧ H' kr = some (rdO b q) ∧ H' n = some (.arr ver 6 (acc.map opAV)) ∧ (∀ k, k < n → k ≠ kr → H' k = H k) ∧ n' = n + 1 ∧ rdMany rdOp b (cnt - i) q acc = rdList rdOp b p) (fun T' _ _ => cnt - iv (T' 6)) ?_ ?_
  ·skip
   refine ⟨0, q0, 0, [], Nat.zero_le _, rfl, by omega, rfl, by simp [Heap.put]; omega, by simp [Heap.put], fun k hk2 hkr => by simp [Heap.put, hkr]; omega, rfl, ?_⟩
   unfold rdList; rw [g0]; rfl
  intro T1 H1 n1
  rintro ⟨i, q, ver, acc, hi, hal, hq, rfl, k1, k2, k3, rfl, hix⟩
  skip
  refine awp_reg zs [0, 3, 5, 6, 7] fun K hK => ?_
  try simp only [go_sem, seval]
  refine hK _ _ _ ?_; clear hK K
  refine awp_seq_k fun K2 hK2 => ?_
  refine awp_cnd (fun hb => ?_) (fun hb => ?_)
  ·skip
   have hlt : i < cnt := by have := of_decide_eq_true hb; omega
   have hkn : (n = kr) = False := by simp; omega
   have hkn' : (kr = n) = False := by simp; omega
   refine awp_skip ?_
   try simp only [go_sem, seval]
   refine hK2 _ _ _ ?_
   first | clear hK2 K2 | skip
   refine awp_seq_k fun K3 hK3 => ?_
   refine awp_block ?_
   refine awp_reg1 zs [0, 3, 5, 6] fun K hK => ?_
   try simp only [go_sem, seval]
   repeat (first | (refine And.intro ?_ ?_; · first | exact ⟨rfl, by simp [AV.sz, AV.szs, AV.memOK]⟩ | exact ⟨by omega, .inr trivial, by omega, by omega⟩) | refine peel ?_)
   refine callK_useK (args' := [.loc kr 0 0 0 []]) Tryz.func67 rfl rfl rfl (c_order_reader_byte hb9 hq k1) ?_ ?_
   rotate_left
   · intro e9 H9 n9 h9
     obtain ⟨h1, rfl, h2, h3⟩ := h9.die
     have hno : rdOp b q = none := by unfold rdOp; simp [h1]
     rw [rdMany_succ rdOp b hlt, hno] at hix
     refine .inr ⟨by rw [← hix]; rfl, rfl, by omega, fun k hk hkr => (h3 k (by omega) hkr).trans ?_⟩
     first | exact k3 k hk hkr | (simp only [Heap.put_get]; (repeat rw [if_neg (by omega)]); exact k3 k hk hkr)
   rintro rr H9 n9 h9
   obtain ⟨x1, q1, g1, rfl, rfl, rfl⟩ := h9.get
   have hq1 := rdByte_le g1
   try simp only [go_sem, seval, AV.memOK.eq_5]
   repeat (first | (refine And.intro ?_ ?_; · first | exact ⟨rfl, by simp [AV.sz, AV.szs, AV.memOK]⟩ | exact ⟨by omega, .inr trivial, by omega, by omega⟩) | refine peel ?_)
   refine callK_useK (args' := [.loc kr 0 0 0 []]) Tryz.func67 rfl rfl rfl (c_order_reader_byte hb9 (hq1.1) (Heap.put_same _ _ _)) ?_ ?_
   rotate_left
   · intro e9 H9 n9 h9
     obtain ⟨h1, rfl, h2, h3⟩ := h9.die
     have hno : rdOp b q = none := by unfold rdOp; simp [g1, h1]
     rw [rdMany_succ rdOp b hlt, hno] at hix
     refine .inr ⟨by rw [← hix]; rfl, rfl, by omega, fun k hk hkr => (h3 k (by omega) hkr).trans ?_⟩
     first | exact k3 k hk hkr | (simp only [Heap.put_get]; (repeat rw [if_neg (by omega)]); exact k3 k hk hkr)
   rintro rr H9 n9 h9
   obtain ⟨x2, q2, g2, rfl, rfl, rfl⟩ := h9.get
   have hq2 := rdByte_le g2
   try simp only [go_sem, seval, AV.memOK.eq_5]
   repeat (first | (refine And.intro ?_ ?_; · first | exact ⟨rfl, by simp [AV.sz, AV.szs, AV.memOK]⟩ | exact ⟨by omega, .inr trivial, by omega, by omega⟩) | refine peel ?_)
   refine callK_useK (args' := [.loc kr 0 0 0 []]) Tryz.func71 rfl rfl rfl (c_order_reader_bytes hb9 (hq2.1) (Heap.put_same _ _ _)) ?_ ?_
   rotate_left
   · intro e9 H9 n9 h9
     obtain ⟨h1, rfl, h2, h3⟩ := h9.die
     have hno : rdOp b q = none := by unfold rdOp; simp [g1, g2, h1]
     rw [rdMany_succ rdOp b hlt, hno] at hix
     refine .inr ⟨by rw [← hix]; rfl, rfl, by omega, fun k hk hkr => (h3 k (by omega) hkr).trans ?_⟩
     first | exact k3 k hk hkr | (simp only [Heap.put_get]; (repeat rw [if_neg (by omega)]); exact k3 k hk hkr)
   rintro rr H9 n9 h9
   obtain ⟨x3, q3, g3, rfl, rfl, rfl⟩ := h9.get
   have hq3 := rdBytes_le g3
   try simp only [go_sem, seval, AV.memOK.eq_5, bys]
   repeat (first | (refine And.intro ?_ ?_; · first | exact ⟨rfl, by simp [AV.sz, AV.szs, AV.memOK]⟩ | exact ⟨by omega, .inr trivial, by omega, by omega⟩) | refine peel ?_)
   refine callK_useK (args' := [.loc kr 0 0 0 []]) Tryz.func69 rfl rfl rfl (c_order_reader_uint hb9 (hq3.1) (Heap.put_same _ _ _)) ?_ ?_
   rotate_left
   · intro e9 H9 n9 h9
     obtain ⟨h1, rfl, h2, h3⟩ := h9.die
     have hno : rdOp b q = none := by unfold rdOp; simp [g1, g2, g3, h1]
     rw [rdMany_succ rdOp b hlt, hno] at hix
     refine .inr ⟨by rw [← hix]; rfl, rfl, by omega, fun k hk hkr => (h3 k (by omega) hkr).trans ?_⟩
     first | exact k3 k hk hkr | (simp only [Heap.put_get]; (repeat rw [if_neg (by omega)]); exact k3 k hk hkr)
   rintro rr H9 n9 h9
   obtain ⟨x4, q4, g4, rfl, rfl, rfl⟩ := h9.get
   have hq4 := rdUint_le g4
   try simp only [go_sem, seval, AV.memOK.eq_5]
   repeat (first | (refine And.intro ?_ ?_; · first | exact ⟨rfl, by simp [AV.sz, AV.szs, AV.memOK]⟩ | exact ⟨by omega, .inr trivial, by omega, by omega⟩) | refine peel ?_)
   refine callK_useK (args' := [.loc kr 0 0 0 []]) Tryz.func71 rfl rfl rfl (c_order_reader_bytes hb9 (hq4.1) (Heap.put_same _ _ _)) ?_ ?_
   rotate_left
   · intro e9 H9 n9 h9
     obtain ⟨h1, rfl, h2, h3⟩ := h9.die
     have hno : rdOp b q = none := by unfold rdOp; simp [g1, g2, g3, g4, h1]
     rw [rdMany_succ rdOp b hlt, hno] at hix
     refine .inr ⟨by rw [← hix]; rfl, rfl, by omega, fun k hk hkr => (h3 k (by omega) hkr).trans ?_⟩
     first | exact k3 k hk hkr | (simp only [Heap.put_get]; (repeat rw [if_neg (by omega)]); exact k3 k hk hkr)
   rintro rr H9 n9 h9
   obtain ⟨x5, q5, g5, rfl, rfl, rfl⟩ := h9.get
   have hq5 := rdBytes_le g5
   try simp only [go_sem, seval, AV.memOK.eq_5, bys]
   repeat (first | (refine And.intro ?_ ?_; · first | exact ⟨rfl, by simp [AV.sz, AV.szs, AV.memOK]⟩ | exact ⟨by omega, .inr trivial, by omega, by omega⟩) | refine peel ?_)
   refine callK_useK (args' := [.loc kr 0 0 0 []]) Tryz.func131 rfl rfl rfl (c_order_reader_delta hb9 (hq5.1) (Heap.put_same _ _ _)) ?_ ?_
   rotate_left
   · intro e9 H9 n9 h9
     obtain ⟨h1, rfl, h2, h3⟩ := h9.die
     have hno : rdOp b q = none := by unfold rdOp; simp [g1, g2, g3, g4, g5, h1]
     rw [rdMany_succ rdOp b hlt, hno] at hix
     refine .inr ⟨by rw [← hix]; rfl, rfl, by omega, fun k hk hkr => (h3 k (by omega) hkr).trans ?_⟩
     first | exact k3 k hk hkr | (simp only [Heap.put_get]; (repeat rw [if_neg (by omega)]); exact k3 k hk hkr)
   rintro rr H9 n9 h9
   obtain ⟨x6, q6, g6, rfl, rfl, rfl⟩ := h9.get
   have hq6 := rdDelta_le g6
   try simp only [go_sem, seval, k2, List.length_map, AV.memOK.eq_5, hkn]
   repeat (first | (refine And.intro ?_ ?_; · first | exact ⟨rfl, by simp [AV.sz, AV.szs, AV.memOK]⟩ | exact ⟨by omega, .inr trivial, by omega, by omega⟩) | refine peel ?_)
   refine hK _ _ _ ?_; clear hK K
   try simp only [go_sem, seval]
   refine hK3 _ _ _ ?_
   first | clear hK3 K3 | skip
   refine awp_reg1 zs [0, 3, 5, 6] fun K hK => ?_
   try simp only [go_sem, seval]
   refine hK _ _ _ ?_; clear hK K
   try simp only [go_sem, seval]
   refine ⟨⟨i + 1, q6, ver + 1, acc ++ [⟨x1, x2, x3, x4, x5, x6⟩], by omega, by simp [hal], hq6.1, by rw [w1 (by omega)]; simp, by simp [hkn'], ?_, fun k hk2 hkr => ?_, ?_⟩, by rw [w1 (by omega)]; simp; omega⟩
   · simp [Heap.put, opAV, bys, List.take_of_length_le]
   · have h0 : k ≠ n := by omega
     simp [Heap.put, h0, hkr, k3 k hk2 hkr]
   · rw [← hix, rdMany_succ rdOp b hlt]; unfold rdOp; simp [g1, g2, g3, g4, g5, g6]
  ·skip
   have hge : i = cnt := by have := of_decide_eq_false hb; omega
   subst hge
   rw [Nat.sub_self] at hix
   refine awp_exit ?_
   try simp only [go_sem, seval]
   refine hK1 _ _ _ ?_
   first | clear hK1 K1 | skip
   refine awp_reg zs [2] fun K hK => ?_
   try simp only [go_sem, seval]
   refine hK _ _ _ ?_; clear hK K
   refine awp_ret ?_
   try simp only [go_sem, seval, k1]
   refine .inl ⟨_, .sl 6 (acc.map opAV), q, rfl, by rw [← hix]; rfl, (by first | exact k1 | rfl), k3, .osl k2 (Nat.le_refl _) (by simp) ?_⟩
   rw [List.drop_zero, List.take_of_length_le (by simp)]
   exact frzL_kl _ (kls_map opAV (fun x => kl_opAV x n) acc)
end Go.Proofs.YtifnhpmeoogedaaGreatDoor
namespace Go.Proofs.YtifnhpmeoogedaaGreatDoor
open Go Go.Sx Go.Rt Go.Proofs
set_option maxRecDepth 100000 in
set_option maxHeartbeats 3200000 in
theorem c_order_question {b : List UInt8} {p kr : Nat} (hb9 : b.length ≤ 1048576) (hp : p ≤ b.length) {H : Heap} {n : Nat} (hk : kr < n) (hR : H kr = some (rdO b p)) : ACalls Tryz.prog 76 [.loc kr 0 0 0 []] H n (RdK torn kr b H n (rav qryAV (rdQry b p))) := by
  have hb9' := hb9
  replace hb9 : b.length ≤ 1099511627776 := by omega
  have hkn : (n = kr) = False := by simp; omega
  have hkn' : (kr = n) = False := by simp; omega
  have hkn1 : (n + 1 = kr) = False := by simp; omega
  have hkn1' : (kr = n + 1) = False := by simp; omega
  have hkn2 : (n + 2 = kr) = False := by simp; omega
  have hkn2' : (kr = n + 2) = False := by simp; omega
  have k1 := hR
  have k2 := hR
  have k4 := hR
  have k5 := hR
  refine RdK.fin hk ?_
  refine acalls_of_awp Tryz.func76 rfl Tryz.ntmps76 (congrArg Array.toList Tryz.results76) (by simp) ?_
  simp only [go_sem]
  refine awp_reg zs [0, 2] fun K hK => ?_
  try simp only [go_sem, seval]
  refine hK _ _ _ ?_; clear hK K
  refine awp_reg zs [0, 2, 3] fun K hK => ?_
  try simp only [go_sem, seval, AV.memOK.eq_5]
  refine callK_useK (args' := [.loc kr 0 0 0 []]) Tryz.func71 rfl rfl rfl (c_order_reader_bytes hb9 hp (by simp [Heap.put, hkn']; exact hR)) ?_ ?_
  rotate_left
  · intro e9 H9 n9 h9
    obtain ⟨h1, rfl, h2, h3⟩ := h9.die
    refine .inr ⟨by unfold rdQry; simp [h1, rav], rfl, by omega, fun k hk hkr => (h3 k (by omega) hkr).trans ?_⟩
    first | done | (simp only [Heap.put_get]; (repeat rw [if_neg (by omega)]); done)
  rintro rr H9 n9 h9
  obtain ⟨f, q1, g1, rfl, rfl, rfl⟩ := h9.get
  have hq1 := rdBytes_le g1
  try simp only [go_sem, seval, AV.memOK.eq_5, bys]
  refine callK_useK (args' := [.loc kr 0 0 0 []]) Tryz.func71 rfl rfl rfl (c_order_reader_bytes hb9 hq1.1 (Heap.put_same _ _ _)) ?_ ?_
  rotate_left
  · intro e9 H9 n9 h9
    obtain ⟨h1, rfl, h2, h3⟩ := h9.die
    refine .inr ⟨by unfold rdQry; simp [g1, h1, rav], rfl, by omega, fun k hk hkr => (h3 k (by omega) hkr).trans ?_⟩
    first | done | (simp only [Heap.put_get]; (repeat rw [if_neg (by omega)]); done)
  rintro rr H9 n9 h9
  obtain ⟨t, q2, g2, rfl, rfl, rfl⟩ := h9.get
  have hq2 := rdBytes_le g2
  try simp only [go_sem, seval, AV.memOK.eq_5, bys, Nat.add_assoc]
  repeat refine peel ?_
  refine hK _ _ _ ?_; clear hK K
  refine awp_seq_k fun K1 hK1 => ?_
  refine awp_reg zs [0, 2, 3, 10, 11] fun K hK => ?_
  try simp only [go_sem, seval]
  refine callK_useK (args' := [.loc kr 0 0 0 []]) Tryz.func93 rfl rfl rfl (c_order_reader_count hb9 hq2.1 (by simp [Heap.put, hkn, hkn', hkn1, hkn1', hkn2, hkn2'])) ?_ ?_
  rotate_left
  · intro e9 H9 n9 h9
    obtain ⟨h1, rfl, h2, h3⟩ := h9.die
    refine .inr ⟨by unfold rdQry; simp [g1, g2, rdList, h1, rav], rfl, by omega, fun k hk hkr => (h3 k (by omega) hkr).trans ?_⟩
    first | done | (simp only [Heap.put_get]; (repeat rw [if_neg (by omega)]); done)
  rintro rr H9 n9 h9
  obtain ⟨cnt, q3, g3, rfl, rfl, rfl⟩ := h9.get
  have hq3 := rdCount_le g3
  refine hK _ _ _ ?_; clear hK K
  refine awp_block ?_
  refine awp_adopt_obj (n + 1) 1 (ver := 0) (e := 10) (els := [.agg [bys f, bys t, .nilsl, .nilsl, .int .i64 0, .int .i64 0, .int .i64 0, .bool false, .str [], .nilsl]]) (els' := [.agg [bys f, bys t, .osl (n + 2) 0 0 0, .nilsl, .int .i64 0, .int .i64 0, .int .i64 0, .bool false, .str [], .nilsl]]) (by simp [Heap.put, hkn1, bys]) ⟨.agg ⟨.refl _ _, .refl _ _, .nilsl _, .refl _ _, .refl _ _, .refl _ _, .refl _ _, .refl _ _, .refl _ _, .refl _ _, trivial⟩, trivial⟩ ?_
  refine awp_loop (fun T' H' n' => ∃ (i q ver : Nat) (acc : List Int), i ≤ cnt ∧ acc.length = i ∧ q ≤ b.length ∧ T' = tl [(0, .loc kr 0 0 0 []), (2, .loc n 0 0 0 []), (3, .loc (n + 1) 0 0 0 []), (10, .int .i64 cnt), (11, .int .i64 i)] ∧ H' kr = some (rdO b q) ∧ H' (n + 1) = some (.arr 0 10 [.agg [bys f, bys t, .osl (n + 2) ver 0 acc.length, .nilsl, .int .i64 0, .int .i64 0, .int .i64 0, .bool false, .str [], .nilsl]]) ∧ H' (n + 2) = some (.arr ver 1 (acc.map fun x => .int .i64 x)) ∧ H' n = some (.arr 0 10 [.agg [.nilsl, .nilsl, .nilsl, .nilsl, .int .i64 0, .int .i64 0, .int .i64 0, .bool false, .str [], .nilsl]]) ∧ (∀ k, k < n → k ≠ kr → H' k = H k) ∧ n' = n + 3 ∧ rdMany rdUint b (cnt - i) q acc = rdList rdUint b q2) (fun T' _ _ => cnt - iv (T' 11)) ?_ ?_
  ·skip
   refine ⟨0, q3, 0, [], Nat.zero_le _, rfl, by omega, rfl, by simp [Heap.put, hkn', hkn1', hkn2'], by simp [Heap.put], by simp [Heap.put], by simp [Heap.put, hkn], fun k hk2 hkr => by (simp only [Heap.put_get]; (repeat rw [if_neg (by omega)])), rfl, ?_⟩
   unfold rdList; rw [g3]; rfl
  intro T1 H1 n1
  rintro ⟨i, q, ver, acc, hi, hal, hq, rfl, k1, k2, k4, k5, k3, rfl, hix⟩
  refine awp_reg zs [0, 2, 3, 10, 11, 12] fun K hK => ?_
  try simp only [go_sem, seval, bys]
  refine hK _ _ _ ?_; clear hK K
  refine awp_seq_k fun K2 hK2 => ?_
  refine awp_cnd (fun hb => ?_) (fun hb => ?_)
  ·skip
   have hlt : i < cnt := by have := of_decide_eq_true hb; omega
   refine awp_skip ?_
   try simp only [go_sem, seval, bys]
   refine hK2 _ _ _ ?_
   first | clear hK2 K2 | skip
   refine awp_seq_k fun K3 hK3 => ?_
   refine awp_block ?_
   refine awp_drp1 rfl zs [0, 2, 3, 10, 11] [.q, .q, .m, .w [0, 1], .q, .w [], .q, .w []] [0, 1, 2, 3, 4, 5, 6, 7] [0, 1, 2, 3, 4, 5, 6, 7] (by kernel_rfl) (fun _ _ _ _ _ h => h) fun K hK => ?_
   try simp only [go_sem, seval, k2, bys]
   repeat (first | (refine And.intro ?_ ?_; · first | exact ⟨rfl, by simp [AV.sz, AV.szs, AV.memOK]⟩ | exact ⟨by omega, .inr trivial, by omega, by omega⟩) | refine peel ?_)
   refine callK_useK (args' := [.loc kr 0 0 0 []]) Tryz.func69 rfl rfl rfl (c_order_reader_uint hb9 hq k1) ?_ ?_
   rotate_left
   · intro e9 H9 n9 h9
     obtain ⟨h1, rfl, h2, h3⟩ := h9.die
     rw [rdMany_succ rdUint b hlt, h1] at hix
     refine .inr ⟨by unfold rdQry; rw [g1, Option.bind_some, g2, Option.bind_some, ← hix]; rfl, rfl, by omega, fun k hk hkr => (h3 k (by omega) hkr).trans (k3 k hk hkr)⟩
   rintro rr H9 n9 h9
   obtain ⟨x, qx, gx, rfl, rfl, rfl⟩ := h9.get
   have hqx := rdUint_le gx
   try simp only [go_sem, seval, k2, k4, hkn1, hkn2, List.length_map, AV.memOK.eq_5, bys]
   repeat (first | (refine And.intro ?_ ?_; · first | exact ⟨rfl, by simp [AV.sz, AV.szs, AV.memOK]⟩ | exact ⟨by omega, .inr trivial, by omega, by omega⟩) | refine peel ?_)
   refine hK _ _ _ ?_; clear hK K
   try simp only [go_sem, seval, bys]
   refine hK3 _ _ _ ?_
   first | clear hK3 K3 | skip
   refine awp_reg1 zs [0, 2, 3, 10, 11] fun K hK => ?_
   try simp only [go_sem, seval, bys]
   refine hK _ _ _ ?_; clear hK K
   try simp only [go_sem, seval, k5, hkn, hkn1', hkn2', bys]
   refine ⟨⟨i + 1, qx, ver + 1, acc ++ [x], by omega, by simp [hal], hqx.1, by rw [w1 (by omega)], by simp [Heap.put, hkn', hkn1', hkn2'], ?_, ?_, fun k hk2 hkr => ?_, ?_⟩, by rw [w1 (by omega)]; simp; omega⟩
   · simp [Heap.put, bys]
   · simp [Heap.put, List.take_of_length_le]
   · first | exact k3 k hk2 hkr | ((repeat rw [if_neg (by omega)]); exact k3 k hk2 hkr) | (simp only [Heap.put_get]; (repeat rw [if_neg (by omega)]); exact k3 k hk2 hkr)
   · rw [← hix, rdMany_succ rdUint b hlt, gx]; rfl
  ·skip
   have hge : i = cnt := by have := of_decide_eq_false hb; omega
   subst hge
   rw [Nat.sub_self] at hix
   have g4 : rdList rdUint b q2 = some (acc, q) := hix.symm
   refine awp_exit ?_
   try simp only [go_sem, seval, bys]
   refine hK1 _ _ _ ?_
   first | clear hK1 K1 | skip
   refine awp_reg zs [0, 2, 3] fun K hK => ?_
   try simp only [go_sem, seval]
   refine callK_useK (args' := [.loc kr 0 0 0 []]) Tryz.func71 rfl rfl rfl (c_order_reader_bytes hb9 hq k1) ?_ ?_
   rotate_left
   · intro e9 H9 n9 h9
     obtain ⟨h1, rfl, h2, h3⟩ := h9.die
     refine .inr ⟨by unfold rdQry; simp [g1, g2, g4, h1, rav], rfl, by omega, fun k hk hkr => (h3 k (by omega) hkr).trans ?_⟩
     first | exact k3 k hk hkr | (simp only [Heap.put_get]; (repeat rw [if_neg (by omega)]); exact k3 k hk hkr)
   rintro rr H9 n9 h9
   obtain ⟨pr, q5, g5, rfl, rfl, rfl⟩ := h9.get
   have hq5 := rdBytes_le g5
   try simp only [go_sem, seval, bys]
   refine callK_useK (args' := [.loc kr 0 0 0 []]) Tryz.func69 rfl rfl rfl (c_order_reader_uint hb9 hq5.1 (Heap.put_same _ _ _)) ?_ ?_
   rotate_left
   · intro e9 H9 n9 h9
     obtain ⟨h1, rfl, h2, h3⟩ := h9.die
     refine .inr ⟨by unfold rdQry; simp [g1, g2, g4, g5, h1, rav], rfl, by omega, fun k hk hkr => (h3 k (by omega) hkr).trans ?_⟩
     first | exact k3 k hk hkr | (simp only [Heap.put_get]; (repeat rw [if_neg (by omega)]); exact k3 k hk hkr)
   rintro rr H9 n9 h9
   obtain ⟨ti, q6, g6, rfl, rfl, rfl⟩ := h9.get
   have hq6 := rdUint_le g6
   try simp only [go_sem, seval]
   refine callK_useK (args' := [.loc kr 0 0 0 []]) Tryz.func69 rfl rfl rfl (c_order_reader_uint hb9 hq6.1 (Heap.put_same _ _ _)) ?_ ?_
   rotate_left
   · intro e9 H9 n9 h9
     obtain ⟨h1, rfl, h2, h3⟩ := h9.die
     refine .inr ⟨by unfold rdQry; simp [g1, g2, g4, g5, g6, h1, rav], rfl, by omega, fun k hk hkr => (h3 k (by omega) hkr).trans ?_⟩
     first | exact k3 k hk hkr | (simp only [Heap.put_get]; (repeat rw [if_neg (by omega)]); exact k3 k hk hkr)
   rintro rr H9 n9 h9
   obtain ⟨nn, q7, g7, rfl, rfl, rfl⟩ := h9.get
   have hq7 := rdUint_le g7
   try simp only [go_sem, seval]
   refine callK_useK (args' := [.loc kr 0 0 0 []]) Tryz.func69 rfl rfl rfl (c_order_reader_uint hb9 hq7.1 (Heap.put_same _ _ _)) ?_ ?_
   rotate_left
   · intro e9 H9 n9 h9
     obtain ⟨h1, rfl, h2, h3⟩ := h9.die
     refine .inr ⟨by unfold rdQry; simp [g1, g2, g4, g5, g6, g7, h1, rav], rfl, by omega, fun k hk hkr => (h3 k (by omega) hkr).trans ?_⟩
     first | exact k3 k hk hkr | (simp only [Heap.put_get]; (repeat rw [if_neg (by omega)]); exact k3 k hk hkr)
   rintro rr H9 n9 h9
   obtain ⟨rw9, q8, g8, rfl, rfl, rfl⟩ := h9.get
   have hq8 := rdUint_le g8
   try simp only [go_sem, seval, k2, hkn1, AV.memOK.eq_5, bys]
   refine hK _ _ _ ?_; clear hK K
   refine awp_reg zs [0, 2, 3] fun K hK => ?_
   try simp only [go_sem, seval]
   refine callK_useK (args' := [.loc kr 0 0 0 []]) Tryz.func67 rfl rfl rfl (c_order_reader_byte hb9 hq8.1 (by simp [Heap.put, hkn, hkn', hkn1, hkn1', hkn2, hkn2'])) ?_ ?_
   rotate_left
   · intro e9 H9 n9 h9
     obtain ⟨h1, rfl, h2, h3⟩ := h9.die
     refine .inr ⟨by unfold rdQry; simp [g1, g2, g4, g5, g6, g7, g8, h1, rav], rfl, by omega, fun k hk hkr => (h3 k (by omega) hkr).trans ?_⟩
     first | exact k3 k hk hkr | (simp only [Heap.put_get]; (repeat rw [if_neg (by omega)]); exact k3 k hk hkr)
   rintro rr H9 n9 h9
   obtain ⟨rv, q9, g9, rfl, rfl, rfl⟩ := h9.get
   have hq9 := rdByte_le g9
   try simp only [go_sem, seval, hkn1, AV.memOK.eq_5]
   refine hK _ _ _ ?_; clear hK K
   refine awp_drp rfl zs [2, 3] [.m, .w [], .q, .m, .w [2, 5], .q, .w [], .q, .w []] [0, 3, 1, 2, 5, 4, 6, 7, 8] [0, 2, 3, 1, 5, 4, 6, 7, 8] (by kernel_rfl) (fun _ _ _ _ _ h => h) fun K hK => ?_
   try simp only [go_sem, seval]
   repeat (first | (refine And.intro ?_ ?_; · first | exact bys_isByte _) | refine peel ?_)
   refine callK_useK (args' := [.loc kr 0 0 0 []]) Tryz.func71 rfl rfl rfl (c_order_reader_bytes hb9 hq9.1 (by simp [Heap.put, hkn, hkn', hkn1, hkn1', hkn2, hkn2'])) ?_ ?_
   rotate_left
   · intro e9 H9 n9 h9
     obtain ⟨h1, rfl, h2, h3⟩ := h9.die
     refine .inr ⟨by unfold rdQry; simp [g1, g2, g4, g5, g6, g7, g8, g9, h1, rav], rfl, by omega, fun k hk hkr => (h3 k (by omega) hkr).trans ?_⟩
     first | exact k3 k hk hkr | (simp only [Heap.put_get]; (repeat rw [if_neg (by omega)]); exact k3 k hk hkr)
   rintro rr H9 n9 h9
   obtain ⟨w, q10, g10, rfl, rfl, rfl⟩ := h9.get
   have hq10 := rdBytes_le g10
   try simp only [go_sem, seval, map_byteOf, bys]
   repeat (first | (refine And.intro ?_ ?_; · first | exact bys_isByte _) | refine peel ?_)
   refine callK_useK (args' := [.loc kr 0 0 0 []]) Tryz.func71 rfl rfl rfl (c_order_reader_bytes hb9 hq10.1 (Heap.put_same _ _ _)) ?_ ?_
   rotate_left
   · intro e9 H9 n9 h9
     obtain ⟨h1, rfl, h2, h3⟩ := h9.die
     refine .inr ⟨by unfold rdQry; simp [g1, g2, g4, g5, g6, g7, g8, g9, g10, h1, rav], rfl, by omega, fun k hk hkr => (h3 k (by omega) hkr).trans ?_⟩
     first | exact k3 k hk hkr | (simp only [Heap.put_get]; (repeat rw [if_neg (by omega)]); exact k3 k hk hkr)
   rintro rr H9 n9 h9
   obtain ⟨tk, q11, g11, rfl, rfl, rfl⟩ := h9.get
   have hq11 := rdBytes_le g11
   try simp only [go_sem, seval, hkn1, AV.memOK.eq_5, bys]
   repeat (first | (refine And.intro ?_ ?_; · first | exact bys_isByte _) | refine peel ?_)
   refine hK _ _ _ ?_; clear hK K
   refine awp_reg zs [2] fun K hK => ?_
   try simp only [go_sem, seval, k5, hkn, AV.memOK.eq_5]
   refine hK _ _ _ ?_; clear hK K
   refine awp_ret ?_
   try simp only [go_sem, seval, hkn', hkn1']
   refine .inl ⟨_, qryAV ⟨f, t, acc, pr, ti, nn, rw9, rv == 1, w, tk⟩, q11, rfl, by unfold rdQry; simp [g1, g2, g4, g5, g6, g7, g8, g9, g10, g11, rav], rfl, fun k hk hkr => ?_, ?_⟩
   · (repeat rw [if_neg (by omega)])
     exact k3 k hk hkr
   · refine .agg (.cons (.kl (kls_bytes _ _)) ?_)
     refine .cons (.kl (kls_bytes _ _)) (.cons (.osl (e := 1) (els := acc.map fun x => .int .i64 x) ?_ (by omega) (by simp) ?_) (.cons (.kl (kls_bytes _ _)) (.cons (.kl trivial) (.cons (.kl trivial) (.cons (.kl trivial) (.cons (.kl trivial) (.cons (.kl trivial) (.cons (.kl (kls_bytes _ _)) .nil))))))))
     · simp [Heap.put, hkn2, k4]
     · rw [List.drop_zero, List.take_of_length_le (by simp)]
       exact frzL_kl _ (kls_map (fun x : Int => .int .i64 x) (fun x => trivial) acc)
end Go.Proofs.YtifnhpmeoogedaaGreatDoor
namespace Go.Proofs.YtifnhpmeoogedaaGreatDoor
open Go Go.Sx Go.Rt Go.Proofs
theorem c_order_whole_S1_ret {ko : Nat} {v : Bool} {H : Heap} {n : Nat} (hO : H ko = some (.arr 0 1 [.bool v])) : ACallsD Tryz.prog 127 [.loc ko 0 0 0 []] .ret H n (fun m' H' n' => m' = .ret ∧ H' = H ∧ n' = n) := by
  refine acallsD_at zs [0, 1] 0 Tryz.func127 rfl Tryz.ntmps127 (congrArg Array.toList Tryz.results127) (by simp) rfl (by show _ < _; decide) fun K hK => ?_
  try simp only [go_sem, seval]
  refine hK _ _ _ ?_; clear hK K
  refine awp_rq zs [0, 1, 6] ?_
  refine awp_cnd (fun hb => ?_) (fun hb => ?_)
  ·skip
   exact absurd hb (by decide) --dead
  ·skip
   refine awp_skip ?_
   try simp only [go_sem, seval]
theorem c_order_whole_S1_pan {ko : Nat} {v : Bool} {H : Heap} {n : Nat} (hk : ko < n) (hO : H ko = some (.arr 0 1 [.bool v])) : ACallsD Tryz.prog 127 [.loc ko 0 0 0 []] (.pan torn) H n (fun m' H' n' => m' = .ret ∧ n ≤ n' ∧ H' ko = some (.arr 0 1 [.bool false]) ∧ ∀ k, k < n → k ≠ ko → H' k = H k) := by
  unfold torn
  have hO2 : (ko = n) = False := by simp; omega
  refine acallsD_at zs [0, 1] 0 Tryz.func127 rfl Tryz.ntmps127 (congrArg Array.toList Tryz.results127) (by simp) rfl (by show _ < _; decide) fun K hK => ?_
  try simp only [go_sem, seval]
  refine hK _ _ _ ?_; clear hK K
  refine awp_reg zs [0, 1, 6] fun K hK => ?_
  try simp only [go_sem, seval]
  refine hK _ _ _ ?_; clear hK K
  refine awp_cnd (fun hb => ?_) (fun hb => ?_)
  ·skip
   refine awp_seq_k fun K1 hK1 => ?_
   refine awp_reg zs [0, 1, 3] fun K hK => ?_
   try simp only [go_sem, seval]
   repeat refine peel ?_
   refine hK _ _ _ ?_; clear hK K
   refine awp_reg zs [0, 1, 13] fun K hK => ?_
   try simp only [go_sem, seval]
   refine hK _ _ _ ?_; clear hK K
   refine awp_cnd (fun hb => ?_) (fun hb => ?_)
   ·skip
    exact absurd hb (by decide) --dead
   ·skip
    refine awp_skip ?_
    try simp only [go_sem, seval]
    refine hK1 _ _ _ ?_
    first | clear hK1 K1 | skip
    refine awp_reg1 zs [] fun K hK => ?_
    try simp only [go_sem, seval, hO, hO2]
    refine hK _ _ _ ?_; clear hK K
    try simp only [go_sem, seval]
    refine ⟨by omega, fun k h1 h2 => ?_⟩
    rw [if_neg h2, if_neg (by omega)]
  ·skip
   exact absurd hb (by decide) --dead
theorem c_order_whole {b : List UInt8} (hb9 : b.length ≤ 1048576) (steps : List (Nat × List AV)) (hl : steps.length ≤ 100) {H : Heap} {n : Nat} (St : Nat → Nat → Heap → Nat → Prop) (Die : Heap → Prop)
    (hS : ∀ i p H2 n2 H3 n3, St i p H2 n2 → (∀ k, k < n2 → k ≠ n → k ≠ n + 1 → H3 k = H2 k) → n2 ≤ n3 → St i p H3 n3)
    (hD : ∀ H2 H3, Die H2 → (∀ k, k < n → H3 k = H2 k) → Die H3)
    (h0 : St 0 0 H n)
    (hstep : ∀ i x, steps[i]? = some x → ∀ p H2 n2, p ≤ b.length → n + 2 ≤ n2 → H2 (n + 1) = some (rdO b p) → St i p H2 n2 →
      (∃ fn : Func, Tryz.prog.funcs[x.1]? = some fn ∧ fn.body.isSome ∧ (fn.name == "runtime.NumGoroutine") = false) ∧ ACalls Tryz.prog x.1 (.loc (n + 1) 0 0 0 [] :: x.2) H2 n2 (fun res H3 n3 =>
        (∃ q, res = .val (.tup []) ∧ q ≤ b.length ∧ H3 (n + 1) = some (rdO b q) ∧ H3 n = H2 n ∧ n2 ≤ n3 ∧ St (i + 1) q H3 n3) ∨ (res = .pan torn ∧ H3 n = H2 n ∧ n2 ≤ n3 ∧ Die H3))) :
    ACalls Tryz.prog 65 [bys b, .sl 1 (steps.map fun x => .fn (.func x.1) [] x.2)] H n (fun res H' n' => n + 2 ≤ n' ∧ ((∃ p, p ≤ b.length ∧ res = .val (.bool ((p : Int) == b.length)) ∧ St steps.length p H' n') ∨ (res = .val (.bool false) ∧ Die H'))) := by
  refine acalls_of_awpD Tryz.func65 rfl Tryz.ntmps65 (congrArg Array.toList Tryz.results65) (by simp) ?_
  simp only [go_sem]
  refine awpD_reg zs [0, 1, 4] fun K hK => ?_
  try simp only [go_sem, seval]
  refine hK _ _ _ ?_; clear hK K
  refine awpD_def zs [0, 1, 4] 1 rfl trivial fun K hK => ?_
  try simp only [go_sem, seval, strip.eq_2]
  first | refine ⟨⟨_, Tryz.func127, rfl, rfl⟩, ?_⟩ | refine deferK_use Tryz.func127 rfl rfl rfl ?_
  refine hK _ _ _ _ ?_; clear hK K
  refine awp_reg zs [0, 1, 4, 5] fun K hK => ?_
  try simp only [go_sem, seval, AV.memOK.eq_5, strip.eq_2]
  repeat refine peel ?_
  refine hK _ _ _ ?_; clear hK K
  refine awp_seq_k fun K1 hK1 => ?_
  refine awp_reg zs [0, 4, 5, 12, 13, 14] fun K hK => ?_
  try simp only [go_sem, seval, List.length_map, strip.eq_2]
  refine hK _ _ _ ?_; clear hK K
  refine awp_block ?_
  refine awp_loop (fun T' H' n' => ∃ (i p : Nat), i ≤ steps.length ∧ p ≤ b.length ∧ T' = tl [(0, bys b), (4, .loc n 0 0 0 []), (5, .loc (n + 1) 0 0 0 []), (12, .sl 1 (steps.map fun x => .fn (.func x.1) [] x.2)), (13, .int .i64 steps.length), (14, .int .i64 i)] ∧ H' n = some (.arr 0 1 [.bool false]) ∧ H' (n + 1) = some (rdO b p) ∧ n + 2 ≤ n' ∧ St i p H' n') (fun T' _ _ => steps.length - iv (T' 14)) ?_ ?_
  ·skip
   exact ⟨0, 0, Nat.zero_le _, Nat.zero_le _, by simp [bys], by simp [Heap.put], by simp [Heap.put, rdO, bys], by omega, hS _ _ _ _ _ _ h0 (fun k h1 h2 h3 => by simp [Heap.put, h2, h3]) (by omega)⟩
  intro T1 H1 n1
  rintro ⟨i, p, hi, hp, rfl, k1, k2, hn, hst⟩
  refine awp_reg zs [0, 4, 5, 12, 13, 14, 15] fun K hK => ?_
  try simp only [go_sem, seval, bys, Int.toNat_natCast, strip.eq_2]
  refine hK _ _ _ ?_; clear hK K
  refine awp_seq_k fun K2 hK2 => ?_
  refine awp_cnd (fun hb => ?_) (fun hb => ?_)
  ·skip
   have hlt : i < steps.length := by have := of_decide_eq_true hb; omega
   obtain ⟨x, hx⟩ : ∃ x, steps[i]? = some x := ⟨_, List.getElem?_eq_getElem hlt⟩
   have hnx : nth (steps.map fun x => AV.fn (.func x.1) [] x.2) i = .fn (.func x.1) [] x.2 := by simp [nth, hx]
   refine awp_skip ?_
   try simp only [go_sem, seval, bys, Int.toNat_natCast]
   refine hK2 _ _ _ ?_
   first | clear hK2 K2 | skip
   refine awp_seq_k fun K3 hK3 => ?_
   refine awp_block ?_
   refine awp_reg zs [0, 4, 5, 7, 12, 13, 14] fun K hK => ?_
   try simp only [go_sem, seval, bys, List.length_map, Int.toNat_natCast, strip.eq_2, hnx]
   repeat refine peel ?_
   refine hK _ _ _ ?_; clear hK K
   refine awp_reg1 zs [0, 4, 5, 12, 13, 14] fun K hK => ?_
   try simp only [go_sem, seval, bys, Int.toNat_natCast, strip.eq_2]
   refine .inl ⟨(hstep i x hx p _ _ hp hn k2 hst).1, (hstep i x hx p _ _ hp hn k2 hst).2.mono ?_⟩
   rintro rr H9 n9 (⟨q, rfl, hq, h1, h2, h3, h4⟩ | ⟨rfl, h1, h2, h3⟩)
   rotate_left
   · refine (c_order_whole_S1_pan (ko := n) (v := false) (by omega) (h1.trans k1)).mono ?_
     rintro m' H' n' ⟨rfl, g1, g2, g3⟩
     simp only [FinA, go_sem, seval, g2]
     exact ⟨by omega, .inr (hD _ _ h3 (fun k hk => g3 k (by omega) (by omega)))⟩
   try simp only [go_sem, seval]
   refine hK _ _ _ ?_; clear hK K
   try simp only [go_sem, seval, bys, Int.toNat_natCast]
   refine hK3 _ _ _ ?_
   first | clear hK3 K3 | skip
   refine awp_reg1 zs [0, 4, 5, 12, 13, 14] fun K hK => ?_
   try simp only [go_sem, seval, bys, Int.toNat_natCast, strip.eq_2]
   refine hK _ _ _ ?_; clear hK K
   try simp only [go_sem, seval, bys, Int.toNat_natCast]
   refine ⟨⟨i + 1, q, by omega, hq, by rw [w1 (by omega)], h2.trans k1, h1, by omega, h4⟩, by rw [w1 (by omega)]; simp; omega⟩
  ·skip
   have hge : i = steps.length := by have := of_decide_eq_false hb; omega
   subst hge
   refine awp_exit ?_
   try simp only [go_sem, seval, bys, Int.toNat_natCast]
   refine hK1 _ _ _ ?_
   first | clear hK1 K1 | skip
   refine awp_reg zs [4] fun K hK => ?_
   try simp only [go_sem, seval, AV.memOK.eq_5, bys, List.length_map, strip.eq_2, k1, k2, rdO]
   refine hK _ _ _ ?_; clear hK K
   refine awp_ret ?_
   try simp only [go_sem, seval]
   refine (c_order_whole_S1_ret (ko := n) (Heap.put_same _ _ _)).mono ?_
   rintro m' H' n' ⟨rfl, rfl, rfl⟩
   simp only [FinA, go_sem, seval, Heap.put_same]
   exact ⟨by omega, .inl ⟨p, hp, rfl, hS _ _ _ _ _ _ hst (fun k h1 h2 h3 => Heap.put_ne _ _ h2) (Nat.le_refl _)⟩⟩
end Go.Proofs.YtifnhpmeoogedaaGreatDoor
namespace Go.Rt
open Go Go.Sx
def StK (torn : AV) (kr kc kk : Nat) (b : List UInt8) (H : Heap) (n : Nat) (r : Option (CmdE × Nat)) (res : ARes) (H' : Heap) (n' : Nat) : Prop :=
  match r with
  | some x => res = .val (.tup []) ∧ n' = n ∧ x.2 ≤ b.length ∧ H' kr = some (rdO b x.2) ∧ H' kc = some (.arr 0 17 [cmdAV x.1]) ∧ H' kk = some (.arr 0 5 [kindAV x.1.kind]) ∧ ∀ k, k < n → k ≠ kr → k ≠ kc → k ≠ kk → H' k = H k
  | none => res = .pan torn ∧ n ≤ n' ∧ ∀ k, k < n → k ≠ kr → k ≠ kc → k ≠ kk → H' k = H k
section
variable {torn : AV} {kr kc kk : Nat} {b : List UInt8} {H : Heap} {n : Nat} {r : Option (CmdE × Nat)} {H' : Heap} {n' : Nat}
theorem StK.som {c : CmdE} {q : Nat} (hr : r = some (c, q)) (hn : n' = n) (hq : q ≤ b.length) (h1 : H' kr = some (rdO b q)) (h2 : H' kc = some (.arr 0 17 [cmdAV c])) (h3 : H' kk = some (.arr 0 5 [kindAV c.kind])) (h4 : ∀ k, k < n → k ≠ kr → k ≠ kc → k ≠ kk → H' k = H k) : StK torn kr kc kk b H n r (.val (.tup [])) H' n' := by
  subst hr; exact ⟨rfl, hn, hq, h1, h2, h3, h4⟩
theorem StK.non (hr : r = none) (hn : n ≤ n') (h4 : ∀ k, k < n → k ≠ kr → k ≠ kc → k ≠ kk → H' k = H k) : StK torn kr kc kk b H n r (.pan torn) H' n' := by
  subst hr; exact ⟨rfl, hn, h4⟩
end
end Go.Rt
namespace Go.Rt
open Go Go.Sx
theorem rdMany_le {α : Type} {rd : List UInt8 → Nat → Option (α × Nat)} {b : List UInt8} (hrd : ∀ {p x q}, rd b p = some (x, q) → q ≤ b.length) : ∀ {k p : Nat} {acc l : List α} {q : Nat}, p ≤ b.length → rdMany rd b k p acc = some (l, q) → q ≤ b.length
  | 0, p, acc, l, q, hp, h => by simp only [rdMany, Option.some.injEq, Prod.mk.injEq] at h; omega
  | k + 1, p, acc, l, q, hp, h => by
    simp only [rdMany, Option.bind_eq_some_iff] at h
    obtain ⟨⟨x, p2⟩, h1, h2⟩ := h
    exact rdMany_le hrd (hrd h1) h2
theorem rdMany_len {α : Type} {rd : List UInt8 → Nat → Option (α × Nat)} {b : List UInt8} : ∀ {k p : Nat} {acc l : List α} {q : Nat}, rdMany rd b k p acc = some (l, q) → l.length = k + acc.length
  | 0, p, acc, l, q, h => by simp only [rdMany, Option.some.injEq, Prod.mk.injEq] at h; rw [← h.1]; omega
  | k + 1, p, acc, l, q, h => by
    simp only [rdMany, Option.bind_eq_some_iff] at h
    obtain ⟨⟨x, p2⟩, h1, h2⟩ := h
    have := rdMany_len h2
    simp at this; omega
theorem rdMany_all {α : Type} {rd : List UInt8 → Nat → Option (α × Nat)} {b : List UInt8} {A : α → Prop} (hrd : ∀ {p x q}, rd b p = some (x, q) → A x) : ∀ {k p : Nat} {acc l : List α} {q : Nat}, (∀ x ∈ acc, A x) → rdMany rd b k p acc = some (l, q) → ∀ x ∈ l, A x
  | 0, p, acc, l, q, ha, h => by simp only [rdMany, Option.some.injEq, Prod.mk.injEq] at h; rw [← h.1]; exact ha
  | k + 1, p, acc, l, q, ha, h => by
    simp only [rdMany, Option.bind_eq_some_iff] at h
    obtain ⟨⟨x, p2⟩, h1, h2⟩ := h
    refine rdMany_all hrd (fun y hy => ?_) h2
    rcases List.mem_append.1 hy with hy | hy
    · exact ha y hy
    · rw [List.mem_singleton.1 hy]; exact hrd h1
theorem rdList_le {α : Type} {rd : List UInt8 → Nat → Option (α × Nat)} {b : List UInt8} (hrd : ∀ {p x q}, rd b p = some (x, q) → q ≤ b.length) {p q : Nat} {l : List α} (h : rdList rd b p = some (l, q)) : q ≤ b.length ∧ l.length ≤ b.length := by
  simp only [rdList, Option.bind_eq_some_iff] at h
  obtain ⟨⟨x, p2⟩, h1, h2⟩ := h
  have h3 := rdCount_le h1
  exact ⟨rdMany_le hrd (by omega) h2, by have := rdMany_len h2; simp at this; omega⟩
theorem rdList_all {α : Type} {rd : List UInt8 → Nat → Option (α × Nat)} {b : List UInt8} {A : α → Prop} (hrd : ∀ {p x q}, rd b p = some (x, q) → A x) {p q : Nat} {l : List α} (h : rdList rd b p = some (l, q)) : ∀ x ∈ l, A x := by
  simp only [rdList, Option.bind_eq_some_iff] at h
  obtain ⟨⟨x, p2⟩, h1, h2⟩ := h
  exact rdMany_all hrd (by simp) h2
theorem rdCond_le {b : List UInt8} {p q : Nat} {x : CondE} (h : rdCond b p = some (x, q)) : q ≤ b.length ∧ x.qual.length ≤ b.length ∧ x.value.length ≤ b.length := by
  simp only [rdCond, Option.bind_eq_some_iff] at h
  obtain ⟨⟨k, p1⟩, h1, ⟨f, p2⟩, h2, ⟨qq, p3⟩, h3, ⟨v, p4⟩, h4, h5⟩ := h
  simp only [Option.some.injEq, Prod.mk.injEq] at h5
  obtain ⟨rfl, rfl⟩ := h5
  have e3 := rdBytes_le h3
  have e4 := rdBytes_le h4
  exact ⟨by omega, by show qq.length ≤ _; omega, by show v.length ≤ _; omega⟩
theorem rdOp_le {b : List UInt8} {p q : Nat} {x : OpE} (h : rdOp b p = some (x, q)) : q ≤ b.length ∧ x.qual.length ≤ b.length ∧ x.value.length ≤ b.length := by
  simp only [rdOp, Option.bind_eq_some_iff] at h
  obtain ⟨⟨k, p1⟩, h1, ⟨f, p2⟩, h2, ⟨qq, p3⟩, h3, ⟨t, p4⟩, h4, ⟨v, p5⟩, h5, ⟨d, p6⟩, h6, h7⟩ := h
  simp only [Option.some.injEq, Prod.mk.injEq] at h7
  obtain ⟨rfl, rfl⟩ := h7
  have e3 := rdBytes_le h3
  have e5 := rdBytes_le h5
  have e6 := rdDelta_le h6
  exact ⟨by omega, by show qq.length ≤ _; omega, by show v.length ≤ _; omega⟩
theorem rdConds_le {b : List UInt8} {p q : Nat} {l : List CondE} (h : rdList rdCond b p = some (l, q)) : q ≤ b.length ∧ l.length ≤ b.length := rdList_le (fun h => (rdCond_le h).1) h
theorem rdOps_le {b : List UInt8} {p q : Nat} {l : List OpE} (h : rdList rdOp b p = some (l, q)) : q ≤ b.length ∧ l.length ≤ b.length := rdList_le (fun h => (rdOp_le h).1) h
theorem rdQry_le {b : List UInt8} {p q : Nat} {x : QryE} (h : rdQry b p = some (x, q)) : q ≤ b.length ∧ x.frm.length ≤ b.length ∧ x.to.length ≤ b.length ∧ x.fams.length ≤ b.length ∧ x.pre.length ≤ b.length ∧ x.whr.length ≤ b.length ∧ x.token.length ≤ b.length := by
  simp only [rdQry, Option.bind_eq_some_iff] at h
  obtain ⟨⟨a1, p1⟩, h1, ⟨a2, p2⟩, h2, ⟨a3, p3⟩, h3, ⟨a4, p4⟩, h4, ⟨a5, p5⟩, h5, ⟨a6, p6⟩, h6, ⟨a7, p7⟩, h7, ⟨a8, p8⟩, h8, ⟨a9, p9⟩, h9, ⟨a10, p10⟩, h10, h11⟩ := h
  simp only [Option.some.injEq, Prod.mk.injEq] at h11
  obtain ⟨rfl, rfl⟩ := h11
  have e1 := rdBytes_le h1
  have e2 := rdBytes_le h2
  have e3 := rdList_le (fun h => (rdUint_le h).1) h3
  have e4 := rdBytes_le h4
  have e9 := rdBytes_le h9
  have e10 := rdBytes_le h10
  exact ⟨by omega, by show a1.length ≤ _; omega, by show a2.length ≤ _; omega, by show a3.length ≤ _; omega, by show a4.length ≤ _; omega, by show a9.length ≤ _; omega, by show a10.length ≤ _; omega⟩
theorem zc_fits : zc.fits := ⟨by simp [zc], by simp [zc], by simp [zc], by simp [zc], by simp [zc], by simp [zc, zq], by simp [zc, zq], by simp [zc, zq], by simp [zc, zq], by simp [zc, zq], by simp [zc, zq]⟩
theorem rs1_fits {b : List UInt8} {p q : Nat} {c : CmdE} (h : rs1 b p = some (c, q)) : c.fits ∧ 1 ≤ c.kind ∧ c.kind ≤ 7 := by
  simp only [rs1, Option.bind_eq_some_iff] at h
  obtain ⟨⟨k, p1⟩, h1, h2⟩ := h
  split at h2
  · cases h2
  · rename_i hb
    simp only [Option.some.injEq, Prod.mk.injEq] at h2
    obtain ⟨rfl, rfl⟩ := h2
    have z := zc_fits
    simp only [bout, Bool.not_eq_true] at hb
    refine ⟨⟨z.1, z.2, z.3, z.4, z.5, z.6, z.7, z.8, z.9, z.10, z.11⟩, ?_, ?_⟩ <;> (simp at hb; simp only []; omega)
theorem rs2_fits {b : List UInt8} {p q : Nat} {c c' : CmdE} (hc : c.fits) (h : rs2 b c p = some (c', q)) : c'.fits ∧ c'.kind = c.kind := by
  simp only [rs2] at h
  split at h
  · simp only [Option.bind_eq_some_iff] at h
    obtain ⟨x, h1, y, h2, h3⟩ := h
    simp only [Option.some.injEq, Prod.mk.injEq] at h3
    obtain ⟨rfl, rfl⟩ := h3
    exact ⟨⟨hc.1, hc.2, hc.3, hc.4, hc.5, hc.6, hc.7, hc.8, hc.9, hc.10, hc.11⟩, rfl⟩
  · simp only [Option.some.injEq, Prod.mk.injEq] at h
    obtain ⟨rfl, rfl⟩ := h
    exact ⟨hc, rfl⟩
theorem rs3_fits {b : List UInt8} {p q : Nat} {c c' : CmdE} (hb : b.length ≤ 1048576) (hc : c.fits) (h : rs3 b c p = some (c', q)) : c'.fits ∧ c'.kind = c.kind := by
  simp only [rs3] at h
  split at h
  · simp only [Option.bind_eq_some_iff] at h
    obtain ⟨⟨x, p1⟩, h1, ⟨y, p2⟩, h2, ⟨z, p3⟩, h3, h4⟩ := h
    simp only [Option.some.injEq, Prod.mk.injEq] at h4
    obtain ⟨rfl, rfl⟩ := h4
    have e1 := rdBytes_le h1
    have e2 := rdConds_le h2
    have e3 := rdOps_le h3
    have f2 := rdList_all (A := fun x : CondE => x.qual.length ≤ b.length ∧ x.value.length ≤ b.length) (fun h => (rdCond_le h).2) h2
    have f3 := rdList_all (A := fun x : OpE => x.qual.length ≤ b.length ∧ x.value.length ≤ b.length) (fun h => (rdOp_le h).2) h3
    exact ⟨⟨by show x.length ≤ _; omega, by show y.length ≤ _; omega, fun u hu => by have := f2 u hu; omega, by show z.length ≤ _; omega, fun u hu => by have := f3 u hu; omega, hc.6, hc.7, hc.8, hc.9, hc.10, hc.11⟩, rfl⟩
  · simp only [Option.some.injEq, Prod.mk.injEq] at h
    obtain ⟨rfl, rfl⟩ := h
    exact ⟨hc, rfl⟩
theorem rs4_fits {b : List UInt8} {p q : Nat} {c c' : CmdE} (hc : c.fits) (h : rs4 b c p = some (c', q)) : c'.fits ∧ c'.kind = c.kind := by
  simp only [rs4] at h
  split at h
  · simp only [Option.bind_eq_some_iff] at h
    obtain ⟨x, h1, h3⟩ := h
    simp only [Option.some.injEq, Prod.mk.injEq] at h3
    obtain ⟨rfl, rfl⟩ := h3
    exact ⟨⟨hc.1, hc.2, hc.3, hc.4, hc.5, hc.6, hc.7, hc.8, hc.9, hc.10, hc.11⟩, rfl⟩
  · simp only [Option.some.injEq, Prod.mk.injEq] at h
    obtain ⟨rfl, rfl⟩ := h
    exact ⟨hc, rfl⟩
theorem rs5_fits {b : List UInt8} {p q : Nat} {c c' : CmdE} (hb : b.length ≤ 1048576) (hc : c.fits) (h : rs5 b c p = some (c', q)) : c'.fits ∧ c'.kind = c.kind := by
  simp only [rs5] at h
  split at h
  · simp only [Option.bind_eq_some_iff] at h
    obtain ⟨⟨x, p1⟩, h1, h3⟩ := h
    simp only [Option.some.injEq, Prod.mk.injEq] at h3
    obtain ⟨rfl, rfl⟩ := h3
    have e := rdQry_le h1
    exact ⟨⟨hc.1, hc.2, hc.3, hc.4, hc.5, by show x.frm.length ≤ _; omega, by show x.to.length ≤ _; omega, by show x.fams.length ≤ _; omega, by show x.pre.length ≤ _; omega, by show x.whr.length ≤ _; omega, by show x.token.length ≤ _; omega⟩, rfl⟩
  · simp only [Option.some.injEq, Prod.mk.injEq] at h
    obtain ⟨rfl, rfl⟩ := h
    exact ⟨hc, rfl⟩
theorem rdCmd_fits {b : List UInt8} {c : CmdE} (hb : b.length ≤ 1048576) (h : rdCmd b = some c) : c.fits ∧ 1 ≤ c.kind ∧ c.kind ≤ 7 := by
  simp only [rdCmd, Option.bind_eq_some_iff] at h
  obtain ⟨⟨c1, p1⟩, h1, ⟨c2, p2⟩, h2, ⟨c3, p3⟩, h3, ⟨c4, p4⟩, h4, ⟨c5, p5⟩, h5, h6⟩ := h
  split at h6
  · cases h6
    have e1 := rs1_fits h1
    have e2 := rs2_fits e1.1 h2
    have e3 := rs3_fits hb e2.1 h3
    have e4 := rs4_fits e3.1 h4
    have e5 := rs5_fits hb e4.1 h5
    refine ⟨e5.1, ?_⟩
    rw [e5.2, e4.2, e3.2, e2.2]; exact e1.2
  · cases h6
end Go.Rt
namespace Go.Rt
open Go Go.Sx
def rsi (i : Nat) (b : List UInt8) (c : CmdE) (p : Nat) : Option (CmdE × Nat) := match i with
  | 0 => rs1 b p
  | 1 => rs2 b c p
  | 2 => rs3 b c p
  | 3 => rs4 b c p
  | _ => rs5 b c p
def rch (b : List UInt8) : Nat → Option (CmdE × Nat)
  | 0 => some (zc, 0)
  | i + 1 => (rch b i).bind fun x => rsi i b x.1 x.2
theorem rch_none {b : List UInt8} {i : Nat} (h : rch b i = none) : ∀ j, rch b (i + j) = none
  | 0 => h
  | j + 1 => by show (rch b (i + j)).bind _ = none; rw [rch_none h j]; rfl
theorem rch_dead {b : List UInt8} {i k : Nat} (h : rch b i = none) (hik : i ≤ k) : rch b k = none := by
  have := rch_none h (k - i)
  rwa [show i + (k - i) = k by omega] at this
theorem rdCmd_rch (b : List UInt8) : rdCmd b = (rch b 5).bind fun x => if x.2 = b.length then some x.1 else none := by
  simp only [rdCmd, rch, rsi, Option.bind_some, Option.bind_assoc]
def decC (qc : QryE → Int) (s : List Fml) (b : List UInt8) : CmdE × Int :=
  if schemaE s ≠ 0 then (zc, 28) else if 98304 < b.length then (zc, 2) else match rdCmd b with
    | some c => if checkC (qc c.q) s c = 0 ∧ cmdB c = b then (c, 0) else (zc, 140)
    | none => (zc, 140)
end Go.Rt
namespace Go.Rt
open Go Go.Sx
def cmdZ : AV := .agg [.int .i64 0, .int .i64 0, .int .i64 0, .nilsl, .nilsl, .nilsl, .int .i64 0, .agg [.nilsl, .nilsl, .nilsl, .nilsl, .int .i64 0, .int .i64 0, .int .i64 0, .bool false, .str [], .nilsl]]
theorem cmdZ_wk : Wk cmdZ (cmdAV zc) := Wk.agg ⟨.refl _, .refl _, .refl _, .nilsl _, .nilsl _, .nilsl _, .refl _, Wk.agg ⟨.nilsl _, .nilsl _, .nilsl _, .nilsl _, .refl _, .refl _, .refl _, .refl _, .refl _, .nilsl _, trivial⟩, trivial⟩
theorem cmdZ_frz (H : Heap) (n : Nat) : Frz H n cmdZ (cmdAV zc) := .agg (.cons (.kl trivial) (.cons (.kl trivial) (.cons (.kl trivial) (.cons .nilsl (.cons .nilsl (.cons .nilsl (.cons (.kl trivial) (.cons (.agg (.cons .nilsl (.cons .nilsl (.cons .nilsl (.cons .nilsl (.cons (.kl trivial) (.cons (.kl trivial) (.cons (.kl trivial) (.cons (.kl trivial) (.cons (.kl trivial) (.cons .nilsl .nil))))))))))) .nil))))))))
theorem kl_cmdAV (c : CmdE) (n : Nat) : (cmdAV c).kl n := ⟨trivial, trivial, trivial, kls_bytes _ _, kls_map condAV (fun x => kl_condAV x n) _, kls_map opAV (fun x => kl_opAV x n) _, trivial, ⟨kls_bytes _ _, kls_bytes _ _, kls_map (fun x : Int => .int .i64 x) (fun _ => trivial) _, kls_bytes _ _, trivial, trivial, trivial, trivial, trivial, kls_bytes _ _, trivial⟩, trivial⟩
end Go.Rt
namespace Go.Rt
open Go Go.Sx
theorem contG_no {x : Option (Prop × AV)} {k : AV → Prop} (h : ∀ r, k (.opt false r)) : contG false x k := by
  cases x with
  | none => exact ⟨rfl, h _⟩
  | some p => exact ⟨fun h => (nomatch h), h _⟩
end Go.Rt
namespace Go.Proofs.YtifnhpmeoogedaaGreatDoor
open Go Go.Sx Go.Rt Go.Proofs
set_option maxRecDepth 100000 in
set_option maxHeartbeats 3200000 in
theorem c_order_Decode_S1 {b : List UInt8} {p kr kc kk : Nat} {c : CmdE} (hb9 : b.length ≤ 1048576) (hp : p ≤ b.length) {H : Heap} {n : Nat} (hz : c = zc) (hG : GOK 0 2 H n) (hgr : 0 < kr) (hgc : 0 < kc) (hgk : 0 < kk) (hr : kr < n) (hc : kc < n) (hk : kk < n) (h12 : kr ≠ kc) (h13 : kr ≠ kk) (h23 : kc ≠ kk) (hR : H kr = some (rdO b p)) (hC : H kc = some (.arr 0 17 [cmdAV c])) (hD : H kk = some (.arr 0 5 [kindAV c.kind])) : ACalls Tryz.prog 66 [.loc kr 0 0 0 [], .loc kc 0 0 0 [], .loc kk 0 0 0 []] H n (StK torn kr kc kk b H n (rs1 b p)) := by
  have hb9' := hb9
  replace hb9 : b.length ≤ 1099511627776 := by omega
  have e1 : (kr = kc) = False := by simp [h12]
  have e1' : (kc = kr) = False := by simp [Ne.symm h12]
  have e2 : (kr = kk) = False := by simp [h13]
  have e2' : (kk = kr) = False := by simp [Ne.symm h13]
  have e3 : (kc = kk) = False := by simp [h23]
  have e3' : (kk = kc) = False := by simp [Ne.symm h23]
  have hszq : (qryAV c.q).sz = 10 := qryAV_sz c.q
  have hagq : (qryAV c.q).isAgg = true := rfl
  have hmoq : (qryAV c.q).memOK = true := rfl
  subst hz
  have hGK := hG.kinds
  have hkl : kindsL.length = 8 := rfl
  refine acalls_of_awp Tryz.func66 rfl Tryz.ntmps66 (congrArg Array.toList Tryz.results66) (by simp) ?_
  simp only [go_sem]
  have f1 : (0 = kr) = False := by simp; omega
  have f2 : (0 = kc) = False := by simp; omega
  refine awp_reg zs [1, 2] fun K hK => ?_
  try simp only [go_sem, seval]
  refine callK_useK (args' := [.loc kr 0 0 0 []]) Tryz.func67 rfl rfl rfl (c_order_reader_byte hb9 hp hR) ?_ ?_
  rotate_left
  · intro e9 H9 n9 h9
    obtain ⟨h1, rfl, h2, h3⟩ := h9.die
    refine .non (by unfold rs1; simp [h1]) (by omega) fun k hk1 hk2 hk3 hk4 => (h3 k (by omega) hk2).trans ?_
    first | rfl | (simp only [Heap.put_get]; (repeat rw [if_neg (by omega)]))
  rintro rr H9 n9 h9
  obtain ⟨x, q1, g1, rfl, rfl, rfl⟩ := h9.get
  have hq1 := rdByte_le g1
  try simp only [go_sem, seval, hC, e1', cmdAV, AV.memOK.eq_5, bys]
  refine hK _ _ _ ?_; clear hK K
  refine awp_seq_k fun K1 hK1 => ?_
  refine awp_reg zs [1, 2, 9] fun K hK => ?_
  try simp only [go_sem, seval]
  refine callK_use Tryz.func48 rfl rfl rfl ((c_order_outside x 1 7 _ _)) ?_
  refine hK _ _ _ ?_; clear hK K
  refine awp_cnd (fun hb => ?_) (fun hb => ?_)
  ·skip
   replace hb : bout x 1 7 = true := hb
   refine awp_pan1 zs 2 rfl trivial ?_
   try simp only [go_sem, seval]
   refine .non (by unfold rs1; simp [g1, hb]) (by omega) fun k hk1 hk2 hk3 hk4 => ?_
   simp only [Heap.put_get]; (repeat rw [if_neg (by omega)])
  ·skip
   replace hb : bout x 1 7 = false := hb
   have hx1 : 1 ≤ x ∧ x ≤ 7 := by simp [bout] at hb; omega
   have hkn : nth kindsL x.toNat = kindAV x := kindsL_nth (by omega) (by omega)
   refine awp_skip ?_
   try simp only [go_sem, seval]
   refine hK1 _ _ _ ?_
   first | clear hK1 K1 | skip
   refine awp_reg1 zs [] fun K hK => ?_
   try simp only [go_sem, seval, hD, e2', e3', kindAV, AV.memOK.eq_5, f1, f2, hGK, hkl, hkn]
   repeat refine peel ?_
   refine hK _ _ _ ?_; clear hK K
   try simp only [go_sem, seval]
   refine .som (c := { zc with kind := x }) (q := q1) (by unfold rs1; simp [g1, hb]) rfl hq1.1 (by simp [Heap.put, e1, e1', e2, e2', e3, e3']) (by simp [Heap.put, e1, e1', e2, e2', e3, e3', cmdAV, bys, hC]) (by simp [Heap.put, e1, e1', e2, e2', e3, e3', kindAV, hD]) fun k hk1 hk2 hk3 hk4 => by simp only [Heap.put_get]; (repeat rw [if_neg (by omega)])
set_option maxRecDepth 100000 in
set_option maxHeartbeats 3200000 in
theorem c_order_Decode_S2 {b : List UInt8} {p kr kc kk : Nat} {c : CmdE} (hb9 : b.length ≤ 1048576) (hp : p ≤ b.length) {H : Heap} {n : Nat} (hr : kr < n) (hc : kc < n) (hk : kk < n) (h12 : kr ≠ kc) (h13 : kr ≠ kk) (h23 : kc ≠ kk) (hR : H kr = some (rdO b p)) (hC : H kc = some (.arr 0 17 [cmdAV c])) (hD : H kk = some (.arr 0 5 [kindAV c.kind])) : ACalls Tryz.prog 68 [.loc kr 0 0 0 [], .loc kk 0 0 0 [], .loc kc 0 0 0 []] H n (StK torn kr kc kk b H n (rs2 b c p)) := by
  have hb9' := hb9
  replace hb9 : b.length ≤ 1099511627776 := by omega
  have e1 : (kr = kc) = False := by simp [h12]
  have e1' : (kc = kr) = False := by simp [Ne.symm h12]
  have e2 : (kr = kk) = False := by simp [h13]
  have e2' : (kk = kr) = False := by simp [Ne.symm h13]
  have e3 : (kc = kk) = False := by simp [h23]
  have e3' : (kk = kc) = False := by simp [Ne.symm h23]
  have hszq : (qryAV c.q).sz = 10 := qryAV_sz c.q
  have hagq : (qryAV c.q).isAgg = true := rfl
  have hmoq : (qryAV c.q).memOK = true := rfl
  refine acalls_of_awp Tryz.func68 rfl Tryz.ntmps68 (congrArg Array.toList Tryz.results68) (by simp) ?_
  simp only [go_sem]
  refine awp_reg zs [0, 2, 9] fun K hK => ?_
  try simp only [go_sem, seval, hD, kindAV]
  repeat refine peel ?_
  refine hK _ _ _ ?_; clear hK K
  refine awp_cnd (fun hb => ?_) (fun hb => ?_)
  ·skip
   have hb4 : (kClient c.kind || kFree c.kind) = true := by cases h : kClient c.kind <;> simp_all
   refine awp_reg zs [0, 2] fun K hK => ?_
   try simp only [go_sem, seval]
   refine callK_useK (args' := [.loc kr 0 0 0 []]) Tryz.func69 rfl rfl rfl (c_order_reader_uint hb9 hp hR) ?_ ?_
   rotate_left
   · intro e9 H9 n9 h9
     obtain ⟨h1, rfl, h2, h3⟩ := h9.die
     refine .non (by unfold rs2; simp [hb4, h1]) (by omega) fun k hk1 hk2 hk3 hk4 => (h3 k (by omega) hk2).trans ?_
     first | rfl | (simp only [Heap.put_get]; (repeat rw [if_neg (by omega)]))
   rintro rr H9 n9 h9
   obtain ⟨x, q1, g1, rfl, rfl, rfl⟩ := h9.get
   have hq1 := rdUint_le g1
   try simp only [go_sem, seval, hC, e1', cmdAV, AV.memOK.eq_5, bys]
   refine hK _ _ _ ?_; clear hK K
   refine awp_reg1 zs [] fun K hK => ?_
   try simp only [go_sem, seval]
   refine callK_useK (args' := [.loc kr 0 0 0 []]) Tryz.func69 rfl rfl rfl (c_order_reader_uint hb9 hq1.1 (by simp [Heap.put, hR, e1, e1', e2, e2', e3, e3'])) ?_ ?_
   rotate_left
   · intro e9 H9 n9 h9
     obtain ⟨h1, rfl, h2, h3⟩ := h9.die
     refine .non (by unfold rs2; simp [hb4, g1, h1]) (by omega) fun k hk1 hk2 hk3 hk4 => (h3 k (by omega) hk2).trans ?_
     first | rfl | (simp only [Heap.put_get]; (repeat rw [if_neg (by omega)]))
   rintro rr H9 n9 h9
   obtain ⟨y, q2, g2, rfl, rfl, rfl⟩ := h9.get
   have hq2 := rdUint_le g2
   try simp only [go_sem, seval, e1', AV.memOK.eq_5]
   refine hK _ _ _ ?_; clear hK K
   try simp only [go_sem, seval]
   first | skip
   first | (refine .som (c := { c with client := x, serial := y }) (q := q2) (by unfold rs2; simp [hb4, g1, g2]) rfl hq2.1 (by simp [Heap.put, e1, e1', e2, e2', e3, e3']) (by simp [Heap.put, e1, e1', e2, e2', e3, e3', cmdAV, bys]) (by simp [Heap.put, e1, e1', e2, e2', e3, e3', kindAV, hD]) fun k hk1 hk2 hk3 hk4 => by simp only [Heap.put_get]; (repeat rw [if_neg (by omega)])) | (exact .som (c := c) (q := p) (by unfold rs2; simp [hb4]) rfl hp hR hC hD fun k hk1 hk2 hk3 hk4 => rfl)
  ·skip
   have hb4 : (kClient c.kind || kFree c.kind) = false := by cases h : kClient c.kind <;> simp_all
   refine awp_skip ?_
   try simp only [go_sem, seval]
   first | skip
   first | (refine .som (c := { c with client := x, serial := y }) (q := q2) (by unfold rs2; simp [hb4, g1, g2]) rfl hq2.1 (by simp [Heap.put, e1, e1', e2, e2', e3, e3']) (by simp [Heap.put, e1, e1', e2, e2', e3, e3', cmdAV, bys]) (by simp [Heap.put, e1, e1', e2, e2', e3, e3', kindAV, hD]) fun k hk1 hk2 hk3 hk4 => by simp only [Heap.put_get]; (repeat rw [if_neg (by omega)])) | (exact .som (c := c) (q := p) (by unfold rs2; simp [hb4]) rfl hp hR hC hD fun k hk1 hk2 hk3 hk4 => rfl)
set_option maxRecDepth 100000 in
set_option maxHeartbeats 3200000 in
theorem c_order_Decode_S3 {b : List UInt8} {p kr kc kk : Nat} {c : CmdE} (hb9 : b.length ≤ 1048576) (hp : p ≤ b.length) {H : Heap} {n : Nat} (hr : kr < n) (hc : kc < n) (hk : kk < n) (h12 : kr ≠ kc) (h13 : kr ≠ kk) (h23 : kc ≠ kk) (hR : H kr = some (rdO b p)) (hC : H kc = some (.arr 0 17 [cmdAV c])) (hD : H kk = some (.arr 0 5 [kindAV c.kind])) : ACalls Tryz.prog 70 [.loc kr 0 0 0 [], .loc kk 0 0 0 [], .loc kc 0 0 0 []] H n (StK torn kr kc kk b H n (rs3 b c p)) := by
  have hb9' := hb9
  replace hb9 : b.length ≤ 1099511627776 := by omega
  have e1 : (kr = kc) = False := by simp [h12]
  have e1' : (kc = kr) = False := by simp [Ne.symm h12]
  have e2 : (kr = kk) = False := by simp [h13]
  have e2' : (kk = kr) = False := by simp [Ne.symm h13]
  have e3 : (kc = kk) = False := by simp [h23]
  have e3' : (kk = kc) = False := by simp [Ne.symm h23]
  have hszq : (qryAV c.q).sz = 10 := qryAV_sz c.q
  have hagq : (qryAV c.q).isAgg = true := rfl
  have hmoq : (qryAV c.q).memOK = true := rfl
  refine acalls_of_awp Tryz.func70 rfl Tryz.ntmps70 (congrArg Array.toList Tryz.results70) (by simp) ?_
  simp only [go_sem]
  refine awp_reg zs [0, 2, 5] fun K hK => ?_
  try simp only [go_sem, seval, hD, kindAV]
  refine hK _ _ _ ?_; clear hK K
  refine awp_cnd (fun hb => ?_) (fun hb => ?_)
  ·skip
   have hb4 : kOps c.kind = true := hb
   refine awp_reg1 zs [] fun K hK => ?_
   try simp only [go_sem, seval]
   refine callK_useK (args' := [.loc kr 0 0 0 []]) Tryz.func71 rfl rfl rfl (c_order_reader_bytes hb9 hp hR) ?_ ?_
   rotate_left
   · intro e9 H9 n9 h9
     obtain ⟨h1, rfl, h2, h3⟩ := h9.die
     refine .non (by unfold rs3; simp [hb4, h1]) (by omega) fun k hk1 hk2 hk3 hk4 => (h3 k (by omega) hk2).trans ?_
     first | rfl | (simp only [Heap.put_get]; (repeat rw [if_neg (by omega)]))
   rintro rr H9 n9 h9
   obtain ⟨x, q1, g1, rfl, rfl, rfl⟩ := h9.get
   have hq1 := rdBytes_le g1
   try simp only [go_sem, seval, bys]
   refine callK_useK (args' := [.loc kr 0 0 0 []]) Tryz.func72 rfl rfl rfl (c_order_conds hb9' hq1.1 (by omega) (by simp [Heap.put, hR, e1, e1', e2, e2', e3, e3'])) ?_ ?_
   rotate_left
   · intro e9 H9 n9 h9
     obtain ⟨h1, rfl, h2, h3⟩ := h9.die
     refine .non (by unfold rs3; simp [hb4, g1, h1]) (by omega) fun k hk1 hk2 hk3 hk4 => (h3 k (by omega) hk2).trans ?_
     first | rfl | (simp only [Heap.put_get]; (repeat rw [if_neg (by omega)]))
   rintro rr H9 n9 h9
   obtain ⟨y, q2, g2, rfl, rfl, rfl⟩ := h9.get
   have hq2 := rdConds_le g2
   try simp only [go_sem, seval]
   refine callK_useK (args' := [.loc kr 0 0 0 []]) Tryz.func73 rfl rfl rfl (c_order_ops hb9' hq2.1 (by omega) (by simp [Heap.put, hR, e1, e1', e2, e2', e3, e3'])) ?_ ?_
   rotate_left
   · intro e9 H9 n9 h9
     obtain ⟨h1, rfl, h2, h3⟩ := h9.die
     refine .non (by unfold rs3; simp [hb4, g1, g2, h1]) (by omega) fun k hk1 hk2 hk3 hk4 => (h3 k (by omega) hk2).trans ?_
     first | rfl | (simp only [Heap.put_get]; (repeat rw [if_neg (by omega)]))
   rintro rr H9 n9 h9
   obtain ⟨z, q3, g3, rfl, rfl, rfl⟩ := h9.get
   have hq3 := rdOps_le g3
   try simp only [go_sem, seval, hC, e1', cmdAV, AV.memOK.eq_5, bys]
   refine hK _ _ _ ?_; clear hK K
   try simp only [go_sem, seval]
   first | (refine .som (c := { c with row := x, conds := y, ops := z }) (q := q3) (by unfold rs3; simp [hb4, g1, g2, g3]) rfl hq3.1 (by simp [Heap.put, e1, e1', e2, e2', e3, e3']) (by simp [Heap.put, e1, e1', e2, e2', e3, e3', cmdAV, bys]) (by simp [Heap.put, e1, e1', e2, e2', e3, e3', kindAV, hD]) fun k hk1 hk2 hk3 hk4 => by simp only [Heap.put_get]; (repeat rw [if_neg (by omega)])) | (exact .som (c := c) (q := p) (by unfold rs3; simp [hb4]) rfl hp hR hC hD fun k hk1 hk2 hk3 hk4 => rfl)
  ·skip
   have hb4 : kOps c.kind = false := hb
   refine awp_skip ?_
   try simp only [go_sem, seval]
   first | (refine .som (c := { c with row := x, conds := y, ops := z }) (q := q3) (by unfold rs3; simp [hb4, g1, g2, g3]) rfl hq3.1 (by simp [Heap.put, e1, e1', e2, e2', e3, e3']) (by simp [Heap.put, e1, e1', e2, e2', e3, e3', cmdAV, bys]) (by simp [Heap.put, e1, e1', e2, e2', e3, e3', kindAV, hD]) fun k hk1 hk2 hk3 hk4 => by simp only [Heap.put_get]; (repeat rw [if_neg (by omega)])) | (exact .som (c := c) (q := p) (by unfold rs3; simp [hb4]) rfl hp hR hC hD fun k hk1 hk2 hk3 hk4 => rfl)
set_option maxRecDepth 100000 in
set_option maxHeartbeats 3200000 in
theorem c_order_Decode_S4 {b : List UInt8} {p kr kc kk : Nat} {c : CmdE} (hb9 : b.length ≤ 1048576) (hp : p ≤ b.length) {H : Heap} {n : Nat} (hr : kr < n) (hc : kc < n) (hk : kk < n) (h12 : kr ≠ kc) (h13 : kr ≠ kk) (h23 : kc ≠ kk) (hR : H kr = some (rdO b p)) (hC : H kc = some (.arr 0 17 [cmdAV c])) (hD : H kk = some (.arr 0 5 [kindAV c.kind])) : ACalls Tryz.prog 74 [.loc kr 0 0 0 [], .loc kk 0 0 0 [], .loc kc 0 0 0 []] H n (StK torn kr kc kk b H n (rs4 b c p)) := by
  have hb9' := hb9
  replace hb9 : b.length ≤ 1099511627776 := by omega
  have e1 : (kr = kc) = False := by simp [h12]
  have e1' : (kc = kr) = False := by simp [Ne.symm h12]
  have e2 : (kr = kk) = False := by simp [h13]
  have e2' : (kk = kr) = False := by simp [Ne.symm h13]
  have e3 : (kc = kk) = False := by simp [h23]
  have e3' : (kk = kc) = False := by simp [Ne.symm h23]
  have hszq : (qryAV c.q).sz = 10 := qryAV_sz c.q
  have hagq : (qryAV c.q).isAgg = true := rfl
  have hmoq : (qryAV c.q).memOK = true := rfl
  refine acalls_of_awp Tryz.func74 rfl Tryz.ntmps74 (congrArg Array.toList Tryz.results74) (by simp) ?_
  simp only [go_sem]
  refine awp_reg zs [0, 2, 6] fun K hK => ?_
  try simp only [go_sem, seval, hD, kindAV]
  refine hK _ _ _ ?_; clear hK K
  refine awp_cnd (fun hb => ?_) (fun hb => ?_)
  ·skip
   have hb4 : 0 ≤ kLeast c.kind := of_decide_eq_true hb
   refine awp_reg1 zs [] fun K hK => ?_
   try simp only [go_sem, seval]
   refine callK_useK (args' := [.loc kr 0 0 0 []]) Tryz.func69 rfl rfl rfl (c_order_reader_uint hb9 hp hR) ?_ ?_
   rotate_left
   · intro e9 H9 n9 h9
     obtain ⟨h1, rfl, h2, h3⟩ := h9.die
     refine .non (by unfold rs4; simp [hb4, h1]) (by omega) fun k hk1 hk2 hk3 hk4 => (h3 k (by omega) hk2).trans ?_
     first | rfl | (simp only [Heap.put_get]; (repeat rw [if_neg (by omega)]))
   rintro rr H9 n9 h9
   obtain ⟨x, q1, g1, rfl, rfl, rfl⟩ := h9.get
   have hq1 := rdUint_le g1
   try simp only [go_sem, seval, hC, e1', cmdAV, AV.memOK.eq_5, bys]
   refine hK _ _ _ ?_; clear hK K
   try simp only [go_sem, seval]
   first | (refine .som (c := { c with n := x }) (q := q1) (by unfold rs4; simp [hb4, g1]) rfl hq1.1 (by simp [Heap.put, e1, e1', e2, e2', e3, e3']) (by simp [Heap.put, e1, e1', e2, e2', e3, e3', cmdAV, bys]) (by simp [Heap.put, e1, e1', e2, e2', e3, e3', kindAV, hD]) fun k hk1 hk2 hk3 hk4 => by simp only [Heap.put_get]; (repeat rw [if_neg (by omega)])) | (exact .som (c := c) (q := p) (by unfold rs4; simp [hb4]) rfl hp hR hC hD fun k hk1 hk2 hk3 hk4 => rfl)
  ·skip
   have hb4 : ¬ 0 ≤ kLeast c.kind := of_decide_eq_false hb
   refine awp_skip ?_
   try simp only [go_sem, seval]
   first | (refine .som (c := { c with n := x }) (q := q1) (by unfold rs4; simp [hb4, g1]) rfl hq1.1 (by simp [Heap.put, e1, e1', e2, e2', e3, e3']) (by simp [Heap.put, e1, e1', e2, e2', e3, e3', cmdAV, bys]) (by simp [Heap.put, e1, e1', e2, e2', e3, e3', kindAV, hD]) fun k hk1 hk2 hk3 hk4 => by simp only [Heap.put_get]; (repeat rw [if_neg (by omega)])) | (exact .som (c := c) (q := p) (by unfold rs4; simp [hb4]) rfl hp hR hC hD fun k hk1 hk2 hk3 hk4 => rfl)
set_option maxRecDepth 100000 in
set_option maxHeartbeats 3200000 in
theorem c_order_Decode_S5 {b : List UInt8} {p kr kc kk : Nat} {c : CmdE} (hb9 : b.length ≤ 1048576) (hp : p ≤ b.length) {H : Heap} {n : Nat} (hr : kr < n) (hc : kc < n) (hk : kk < n) (h12 : kr ≠ kc) (h13 : kr ≠ kk) (h23 : kc ≠ kk) (hR : H kr = some (rdO b p)) (hC : H kc = some (.arr 0 17 [cmdAV c])) (hD : H kk = some (.arr 0 5 [kindAV c.kind])) : ACalls Tryz.prog 75 [.loc kr 0 0 0 [], .loc kk 0 0 0 [], .loc kc 0 0 0 []] H n (StK torn kr kc kk b H n (rs5 b c p)) := by
  have hb9' := hb9
  replace hb9 : b.length ≤ 1099511627776 := by omega
  have e1 : (kr = kc) = False := by simp [h12]
  have e1' : (kc = kr) = False := by simp [Ne.symm h12]
  have e2 : (kr = kk) = False := by simp [h13]
  have e2' : (kk = kr) = False := by simp [Ne.symm h13]
  have e3 : (kc = kk) = False := by simp [h23]
  have e3' : (kk = kc) = False := by simp [Ne.symm h23]
  have hszq : (qryAV c.q).sz = 10 := qryAV_sz c.q
  have hagq : (qryAV c.q).isAgg = true := rfl
  have hmoq : (qryAV c.q).memOK = true := rfl
  refine acalls_of_awp Tryz.func75 rfl Tryz.ntmps75 (congrArg Array.toList Tryz.results75) (by simp) ?_
  simp only [go_sem]
  refine awp_reg zs [0, 2, 5] fun K hK => ?_
  try simp only [go_sem, seval, hD, kindAV]
  refine hK _ _ _ ?_; clear hK K
  refine awp_cnd (fun hb => ?_) (fun hb => ?_)
  ·skip
   have hb4 : kQuery c.kind = true := hb
   refine awp_reg1 zs [] fun K hK => ?_
   try simp only [go_sem, seval]
   repeat (first | (refine And.intro ?_ ?_; · first | exact ⟨(qryAV_sz _).symm, by rw [qryAV_sz], rfl⟩) | refine peel ?_)
   refine callK_useK (args' := [.loc kr 0 0 0 []]) Tryz.func76 rfl rfl rfl (c_order_question hb9' hp (by omega) hR) ?_ ?_
   rotate_left
   · intro e9 H9 n9 h9
     obtain ⟨h1, rfl, h2, h3⟩ := h9.die
     refine .non (by unfold rs5; simp [hb4, h1]) (by omega) fun k hk1 hk2 hk3 hk4 => (h3 k (by omega) hk2).trans ?_
     first | rfl | (simp only [Heap.put_get]; (repeat rw [if_neg (by omega)]))
   rintro rr H9 n9 h9
   obtain ⟨x, q1, g1, rfl, rfl, rfl⟩ := h9.get
   have hq1 := rdQry_le g1
   try simp only [go_sem, seval, hC, e1', cmdAV, hszq, bys]
   repeat (first | (refine And.intro ?_ ?_; · first | exact ⟨(qryAV_sz _).symm, by rw [qryAV_sz], rfl⟩) | refine peel ?_)
   refine hK _ _ _ ?_; clear hK K
   try simp only [go_sem, seval]
   first | (refine .som (c := { c with q := x }) (q := q1) (by unfold rs5; simp [hb4, g1]) rfl hq1.1 (by simp [Heap.put, e1, e1', e2, e2', e3, e3']) (by simp [Heap.put, e1, e1', e2, e2', e3, e3', cmdAV, bys]) (by simp [Heap.put, e1, e1', e2, e2', e3, e3', kindAV, hD]) fun k hk1 hk2 hk3 hk4 => by simp only [Heap.put_get]; (repeat rw [if_neg (by omega)])) | (exact .som (c := c) (q := p) (by unfold rs5; simp [hb4]) rfl hp hR hC hD fun k hk1 hk2 hk3 hk4 => rfl)
  ·skip
   have hb4 : kQuery c.kind = false := hb
   refine awp_skip ?_
   try simp only [go_sem, seval]
   first | (refine .som (c := { c with q := x }) (q := q1) (by unfold rs5; simp [hb4, g1]) rfl hq1.1 (by simp [Heap.put, e1, e1', e2, e2', e3, e3']) (by simp [Heap.put, e1, e1', e2, e2', e3, e3', cmdAV, bys]) (by simp [Heap.put, e1, e1', e2, e2', e3, e3', kindAV, hD]) fun k hk1 hk2 hk3 hk4 => by simp only [Heap.put_get]; (repeat rw [if_neg (by omega)])) | (exact .som (c := c) (q := p) (by unfold rs5; simp [hb4]) rfl hp hR hC hD fun k hk1 hk2 hk3 hk4 => rfl)
end Go.Proofs.YtifnhpmeoogedaaGreatDoor
namespace Go.Proofs.YtifnhpmeoogedaaGreatDoor
open Go Go.Sx Go.Rt Go.Proofs
set_option maxRecDepth 100000 in
set_option maxHeartbeats 3200000 in
theorem c_order_Check (s : List Fml) (hs : s.length ≤ 2000000) (c : CmdE) (hc : c.fits) (qc : Int) (hq : kQuery c.kind = true → ∀ H n, GOK 0 2 H n → Ret Tryz.prog 53 [schAV s, qryAV c.q] H n (.int .i64 qc) H n) (H : Heap) (n : Nat) (hG : GOK 0 2 H n) :
    Ret Tryz.prog 15 [schAV s, cmdAV c] H n (.int .i64 (checkC qc s c)) H n := by
  have hkl : kindsL.length = 8 := rfl
  have hsz : (cmdAV c).sz = 17 := cmdAV_sz c
  have hszs : (schAV s).sz = 1 := rfl
  have hags : (schAV s).isAgg = true := rfl
  have hmos : (schAV s).memOK = true := rfl
  have hagq : (qryAV c.q).isAgg = true := rfl
  have hszq : (qryAV c.q).sz = 10 := qryAV_sz c.q
  have hmoq : (qryAV c.q).memOK = true := rfl
  have hk0 := hG.gek
  have hkn : (0 : Nat) = 0 := rfl
  have k1 := hkn
  have k2 := hkn
  have k3 := hkn
  have hkg := hkn
  refine Ret.fin ?_
  refine acalls_of_awp Tryz.func15 rfl Tryz.ntmps15 (congrArg Array.toList Tryz.results15) (by simp) ?_
  simp only [go_sem]
  refine awp_reg zs [2, 3] fun K hK => ?_
  try simp only [go_sem, seval, hszq, cmdAV]
  repeat (first | (refine And.intro ?_ ?_; · first | (intro _ h1; rw [h1]; rfl)) | refine peel ?_)
  refine hK _ _ _ ?_; clear hK K
  refine awp_seq_k fun K1 hK1 => ?_
  refine awp_gen (fun H' n' => H' n = some (.arr 0 1 [schAV s]) ∧ H' (n + 1) = some (.arr 0 17 [cmdAV c]) ∧ n' = n + 2 ∧ ∀ k, k < n → H' k = H k) ⟨by simp [Heap.put, schAV], by simp [Heap.put, cmdAV, bys], rfl, fun k hk => by simp only [Heap.put_get]; repeat rw [if_neg (by omega)]⟩ fun H1 n1 ⟨k1, k2, e9, k4⟩ => ?_
  subst e9
  have hkg := (k4 0 hk0).trans hG.kinds
  refine awp_reg zs [2, 3, 11] fun K hK => ?_
  try simp only [go_sem, seval, k1, schAV]
  repeat (first | (refine And.intro ?_ ?_; · first | (intro _ h1; rw [h1]; rfl)) | refine peel ?_)
  refine callK_use Tryz.func47 rfl rfl rfl ((c_cell_CheckSchema s _ _)) ?_
  try simp only [go_sem, seval]
  repeat (first | (refine And.intro ?_ ?_; · first | (intro _ h1; rw [h1]; rfl)) | refine peel ?_)
  refine hK _ _ _ ?_; clear hK K
  refine awp_cnd (fun hb => ?_) (fun hb => ?_)
  ·skip
   have g1 : (schemaE s != 0) = true := hb
   have hres : checkC qc s c = 28 := by unfold checkC; rw [if_pos g1]
   refine awp_reg zs [4] fun K hK => ?_
   try simp only [go_sem, seval]
   repeat (first | (refine And.intro ?_ ?_; · first | (intro _ h1; rw [h1]; rfl)) | refine peel ?_)
   refine hK _ _ _ ?_; clear hK K
   refine awp_ret ?_
   try simp only [go_sem, seval]
   exact ⟨_, rfl, k4, Frz.eq (by rw [hres]) trivial⟩
  ·skip
   have g1 : ¬ (schemaE s != 0) = true := by rw [show (schemaE s != 0) = false from hb]; simp
   refine awp_skip ?_
   try simp only [go_sem, seval]
   refine hK1 _ _ _ ?_
   first | clear hK1 K1 | skip
   refine awp_seq_k fun K2 hK2 => ?_
   refine awp_reg zs [2, 3, 14] fun K hK => ?_
   try simp only [go_sem, seval, k2, cmdAV]
   repeat (first | (refine And.intro ?_ ?_; · first | (intro _ h1; rw [h1]; rfl)) | refine peel ?_)
   refine callK_use Tryz.func48 rfl rfl rfl ((c_order_outside c.kind 1 7 _ _)) ?_
   repeat (first | (refine And.intro ?_ ?_; · first | (intro _ h1; rw [h1]; rfl)) | refine peel ?_)
   refine hK _ _ _ ?_; clear hK K
   refine awp_cnd (fun hb => ?_) (fun hb => ?_)
   ·skip
    have g2 : bout c.kind 1 7 = true := hb
    have hres : checkC qc s c = 141 := by unfold checkC; rw [if_neg g1, if_pos g2]
    refine awp_reg zs [4] fun K hK => ?_
    try simp only [go_sem, seval]
    repeat (first | (refine And.intro ?_ ?_; · first | (intro _ h1; rw [h1]; rfl)) | refine peel ?_)
    refine hK _ _ _ ?_; clear hK K
    refine awp_ret ?_
    try simp only [go_sem, seval]
    exact ⟨_, rfl, k4, Frz.eq (by rw [hres]) trivial⟩
   ·skip
    have g2b := bout_false (show bout c.kind 1 7 = false from hb)
    have g2 : ¬ bout c.kind 1 7 = true := by rw [show bout c.kind 1 7 = false from hb]; simp
    have hkn : nth kindsL c.kind.toNat = kindAV c.kind := kindsL_nth (by omega) (by omega)
    refine awp_skip ?_
    try simp only [go_sem, seval]
    refine hK2 _ _ _ ?_
    first | clear hK2 K2 | skip
    refine awp_reg zs [2, 3, 5] fun K hK => ?_
    try simp only [go_sem, seval, hkl, hkg, k2, hkn, cmdAV, kindAV]
    repeat (first | (refine And.intro ?_ ?_; · first | exact ⟨by omega, by omega, trivial⟩ | exact ⟨by omega, by omega⟩ | (intro _ h1; rw [h1]; rfl)) | refine peel ?_)
    refine hK _ _ _ ?_; clear hK K
    refine awp_gen (fun H' n' => H' n = some (.arr 0 1 [schAV s]) ∧ H' (n + 1) = some (.arr 0 17 [cmdAV c]) ∧ H' (n + 2) = some (.arr 0 5 [kindAV c.kind]) ∧ n' = n + 3 ∧ ∀ k, k < n → H' k = H k) ⟨by simp [Heap.put, k1], by simp [Heap.put, k2], by simp [Heap.put, kindAV], rfl, fun k hk => by simp only [Heap.put_get]; (repeat rw [if_neg (by omega)]); exact k4 k hk⟩ fun H1 n1 ⟨k1, k2, k3, e9, k4⟩ => ?_
    subst e9
    have hG1 : GOK 0 2 H1 (n + 3) := hG.on k4 (by omega)
    refine awp_reg zs [2, 3, 5, 6] fun K hK => ?_
    try simp only [go_sem, seval]
    repeat (first | (refine And.intro ?_ ?_; · first | (intro _ h1; rw [h1]; rfl)) | refine peel ?_)
    refine hK _ _ _ ?_; clear hK K
    refine awp_seq_jl [2, 3, 5, 6] (fun T' H' n' => T' = tl [(2, .loc n 0 0 0 []), (3, .loc (n + 1) 0 0 0 []), (5, .loc (n + 2) 0 0 0 []), (6, .int .i64 (if kClient c.kind || kFree c.kind then 1099511627776 else 0))] ∧ H' = H1 ∧ n' = n + 3) ?_ ?_
    ·skip
     refine awp_reg zs [2, 3, 5, 6, 24] fun K hK => ?_
     try simp only [go_sem, seval, k3, kindAV]
     repeat (first | (refine And.intro ?_ ?_; · first | (intro _ h1; rw [h1]; rfl)) | refine peel ?_)
     refine hK _ _ _ ?_; clear hK K
     refine awp_cnd (fun hb => ?_) (fun hb => ?_)
     ·skip
      have hb4 : (kClient c.kind || kFree c.kind) = true := by cases h : kClient c.kind <;> simp_all
      refine awp_reg1 zs [2, 3, 5, 6] fun K hK => ?_
      try simp only [go_sem, seval]
      repeat (first | (refine And.intro ?_ ?_; · first | (intro _ h1; rw [h1]; rfl)) | refine peel ?_)
      refine hK _ _ _ ?_; clear hK K
      try simp only [go_sem, seval]
      first | (rw [if_pos hb4]; done) | (rw [if_neg (by rw [hb4]; simp)]; done) | simp [hb4]
     ·skip
      have hb4 : (kClient c.kind || kFree c.kind) = false := by cases h : kClient c.kind <;> simp_all
      refine awp_skip ?_
      try simp only [go_sem, seval]
      first | (rw [if_pos hb4]; done) | (rw [if_neg (by rw [hb4]; simp)]; done) | simp [hb4]
    rintro T1 H2 n1 ⟨rfl, rfl, rfl⟩
    refine awp_reg zs [2, 3, 5, 6, 7] fun K hK => ?_
    try simp only [go_sem, seval]
    repeat (first | (refine And.intro ?_ ?_; · first | (intro _ h1; rw [h1]; rfl)) | refine peel ?_)
    refine hK _ _ _ ?_; clear hK K
    refine awp_seq_jl [2, 3, 5, 6, 7] (fun T' H' n' => T' = tl [(2, .loc n 0 0 0 []), (3, .loc (n + 1) 0 0 0 []), (5, .loc (n + 2) 0 0 0 []), (6, .int .i64 (if kClient c.kind || kFree c.kind then 1099511627776 else 0)), (7, .int .i64 (if kClient c.kind then 1 else 0))] ∧ H' = H2 ∧ n' = n + 3) ?_ ?_
    ·skip
     refine awp_reg zs [2, 3, 5, 6, 7, 26] fun K hK => ?_
     try simp only [go_sem, seval, k3, kindAV]
     repeat (first | (refine And.intro ?_ ?_; · first | (intro _ h1; rw [h1]; rfl)) | refine peel ?_)
     refine hK _ _ _ ?_; clear hK K
     refine awp_cnd (fun hb => ?_) (fun hb => ?_)
     ·skip
      have hb5 : kClient c.kind = true := hb
      refine awp_reg1 zs [2, 3, 5, 6, 7] fun K hK => ?_
      try simp only [go_sem, seval]
      repeat (first | (refine And.intro ?_ ?_; · first | (intro _ h1; rw [h1]; rfl)) | refine peel ?_)
      refine hK _ _ _ ?_; clear hK K
      try simp only [go_sem, seval]
      first | (simp only [hb5]; done) | simp [hb5]
     ·skip
      have hb5 : kClient c.kind = false := hb
      refine awp_skip ?_
      try simp only [go_sem, seval]
      first | (simp only [hb5]; done) | simp [hb5]
    rintro T1 H3 n1 ⟨rfl, rfl, rfl⟩
    refine awp_seq_k fun K3 hK3 => ?_
    refine awp_block ?_
    refine awp_reg zs [2, 3, 5, 27] fun K hK => ?_
    try simp only [go_sem, seval, k2, cmdAV]
    repeat (first | (refine And.intro ?_ ?_; · first | (intro _ h1; rw [h1]; rfl)) | refine peel ?_)
    refine callK_use Tryz.func48 rfl rfl rfl ((c_order_outside c.client _ _ _ _)) ?_
    try simp only [go_sem, seval]
    repeat (first | (refine And.intro ?_ ?_; · first | (intro _ h1; rw [h1]; rfl)) | refine peel ?_)
    refine hK _ _ _ ?_; clear hK K
    refine awp_cnd (fun hb => ?_) (fun hb => ?_)
    ·skip
     have g3 : cb3 c = true := hb
     have hres : checkC qc s c = 142 := by unfold checkC; rw [if_neg g1, if_neg g2, if_pos g3]
     refine awp_reg zs [4] fun K hK => ?_
     try simp only [go_sem, seval]
     repeat (first | (refine And.intro ?_ ?_; · first | (intro _ h1; rw [h1]; rfl)) | refine peel ?_)
     refine hK _ _ _ ?_; clear hK K
     refine awp_ret ?_
     try simp only [go_sem, seval]
     exact ⟨_, rfl, k4, Frz.eq (by rw [hres]) trivial⟩
    ·skip
     have g3 : ¬ cb3 c = true := by rw [show cb3 c = false from hb]; simp
     refine awp_reg zs [2, 3, 5, 33] fun K hK => ?_
     try simp only [go_sem, seval, k2, cmdAV]
     repeat (first | (refine And.intro ?_ ?_; · first | (intro _ h1; rw [h1]; rfl)) | refine peel ?_)
     refine callK_use Tryz.func48 rfl rfl rfl ((c_order_outside c.serial 0 1099511627776 _ _)) ?_
     try simp only [go_sem, seval, k2, cmdAV]
     repeat (first | (refine And.intro ?_ ?_; · first | (intro _ h1; rw [h1]; rfl)) | refine peel ?_)
     refine hK _ _ _ ?_; clear hK K
     refine awp_cnd (fun hb => ?_) (fun hb => ?_)
     ·skip
      have g4 : cb4 c = true := by simpa [cb4] using hb
      have hres : checkC qc s c = 143 := by unfold checkC; rw [if_neg g1, if_neg g2, if_neg g3, if_pos g4]
      refine awp_reg zs [4] fun K hK => ?_
      try simp only [go_sem, seval]
      repeat (first | (refine And.intro ?_ ?_; · first | (intro _ h1; rw [h1]; rfl)) | refine peel ?_)
      refine hK _ _ _ ?_; clear hK K
      refine awp_ret ?_
      try simp only [go_sem, seval]
      exact ⟨_, rfl, k4, Frz.eq (by rw [hres]) trivial⟩
     ·skip
      have g4 : ¬ cb4 c = true := by rw [show cb4 c = false by simpa [cb4] using hb]; simp
      refine awp_reg zs [2, 3, 5, 46] fun K hK => ?_
      try simp only [go_sem, seval, k2, k3, cmdAV, kindAV, List.length_map]
      repeat (first | (refine And.intro ?_ ?_; · first | (intro _ h1; rw [h1]; rfl)) | refine peel ?_)
      refine callG_use Tryz.func48 rfl rfl rfl (fun _ => (c_order_outside c.row.length 1 256 _ _)) ?_
      try simp only [go_sem, seval, k2, k3, cmdAV, kindAV, List.length_map]
      repeat (first | (refine And.intro ?_ ?_; · first | (intro _ h1; rw [h1]; rfl)) | refine peel ?_)
      refine hK _ _ _ ?_; clear hK K
      refine awp_cnd (fun hb => ?_) (fun hb => ?_)
      ·skip
       have g5 : cb5 c = true := by simpa [cb5] using hb
       have hres : checkC qc s c = 20 := by unfold checkC; rw [if_neg g1, if_neg g2, if_neg g3, if_neg g4, if_pos g5]
       refine awp_reg zs [4] fun K hK => ?_
       try simp only [go_sem, seval]
       repeat (first | (refine And.intro ?_ ?_; · first | (intro _ h1; rw [h1]; rfl)) | refine peel ?_)
       refine hK _ _ _ ?_; clear hK K
       refine awp_ret ?_
       try simp only [go_sem, seval]
       exact ⟨_, rfl, k4, Frz.eq (by rw [hres]) trivial⟩
      ·skip
       have g5 : ¬ cb5 c = true := by rw [show cb5 c = false by simpa [cb5] using hb]; simp
       refine awp_reg zs [2, 3, 5, 66] fun K hK => ?_
       try simp only [go_sem, seval, k1, k2, k3, cmdAV, kindAV, List.length_map]
       repeat (first | (refine And.intro ?_ ?_; · first | (intro _ h1; rw [h1]; rfl)) | refine peel ?_)
       refine callG_use Tryz.func49 rfl rfl rfl (fun _ => (c_order_every_C s hs c.conds hc.conds _ _)) ?_
       try simp only [go_sem, seval]
       repeat (first | (refine And.intro ?_ ?_; · first | (intro _ h1; rw [h1]; rfl)) | refine peel ?_)
       refine hK _ _ _ ?_; clear hK K
       refine awp_cnd (fun hb => ?_) (fun hb => ?_)
       ·skip
        have g6 : cb6 s.length c = true := by simpa [cb6] using hb
        have hres : checkC qc s c = 146 := by unfold checkC; rw [if_neg g1, if_neg g2, if_neg g3, if_neg g4, if_neg g5, if_pos g6]
        refine awp_reg zs [4] fun K hK => ?_
        try simp only [go_sem, seval]
        repeat (first | (refine And.intro ?_ ?_; · first | (intro _ h1; rw [h1]; rfl)) | refine peel ?_)
        refine hK _ _ _ ?_; clear hK K
        refine awp_ret ?_
        try simp only [go_sem, seval]
        exact ⟨_, rfl, k4, Frz.eq (by rw [hres]) trivial⟩
       ·skip
        have g6 : ¬ cb6 s.length c = true := by rw [show cb6 s.length c = false by simpa [cb6] using hb]; simp
        refine awp_reg zs [2, 3, 5, 89] fun K hK => ?_
        try simp only [go_sem, seval, k2, k3, cmdAV, kindAV, List.length_map]
        repeat (first | (refine And.intro ?_ ?_; · first | (intro _ h1; rw [h1]; rfl)) | refine peel ?_)
        refine callG_use Tryz.func48 rfl rfl rfl (fun _ => (c_order_outside c.ops.length 1 16 _ _)) ?_
        try simp only [go_sem, seval, k2, k3, cmdAV, kindAV, List.length_map]
        repeat (first | (refine And.intro ?_ ?_; · first | (intro _ h1; rw [h1]; rfl)) | refine peel ?_)
        refine hK _ _ _ ?_; clear hK K
        refine awp_cnd (fun hb => ?_) (fun hb => ?_)
        ·skip
         have g7 : cb7 c = true := by simpa [cb7] using hb
         have hres : checkC qc s c = 144 := by unfold checkC; rw [if_neg g1, if_neg g2, if_neg g3, if_neg g4, if_neg g5, if_neg g6, if_pos g7]
         refine awp_reg zs [4] fun K hK => ?_
         try simp only [go_sem, seval]
         repeat (first | (refine And.intro ?_ ?_; · first | (intro _ h1; rw [h1]; rfl)) | refine peel ?_)
         refine hK _ _ _ ?_; clear hK K
         refine awp_ret ?_
         try simp only [go_sem, seval]
         exact ⟨_, rfl, k4, Frz.eq (by rw [hres]) trivial⟩
        ·skip
         have g7 : ¬ cb7 c = true := by rw [show cb7 c = false by simpa [cb7] using hb]; simp
         refine awp_reg zs [2, 3, 5, 109] fun K hK => ?_
         try simp only [go_sem, seval, k1, k2, cmdAV]
         repeat (first | (refine And.intro ?_ ?_; · first | (intro _ h1; rw [h1]; rfl)) | refine peel ?_)
         refine callK_use Tryz.func51 rfl rfl rfl ((c_order_every_O s hs c.ops hc.ops _ _)) ?_
         try simp only [go_sem, seval]
         repeat (first | (refine And.intro ?_ ?_; · first | (intro _ h1; rw [h1]; rfl)) | refine peel ?_)
         refine hK _ _ _ ?_; clear hK K
         refine awp_cnd (fun hb => ?_) (fun hb => ?_)
         ·skip
          have g8 : cb8 s.length c = true := by simpa [cb8] using hb
          have hres : checkC qc s c = 145 := by unfold checkC; rw [if_neg g1, if_neg g2, if_neg g3, if_neg g4, if_neg g5, if_neg g6, if_neg g7, if_pos g8]
          refine awp_reg zs [4] fun K hK => ?_
          try simp only [go_sem, seval]
          repeat (first | (refine And.intro ?_ ?_; · first | (intro _ h1; rw [h1]; rfl)) | refine peel ?_)
          refine hK _ _ _ ?_; clear hK K
          refine awp_ret ?_
          try simp only [go_sem, seval]
          exact ⟨_, rfl, k4, Frz.eq (by rw [hres]) trivial⟩
         ·skip
          have g8 : ¬ cb8 s.length c = true := by rw [show cb8 s.length c = false by simpa [cb8] using hb]; simp
          refine awp_reg zs [2, 3, 5, 115] fun K hK => ?_
          try simp only [go_sem, seval, k2, k3, cmdAV, kindAV]
          repeat (first | (refine And.intro ?_ ?_; · first | (intro _ h1; rw [h1]; rfl)) | refine peel ?_)
          refine callG_use Tryz.func48 rfl rfl rfl (fun _ => (c_order_outside c.n (kLeast c.kind) 1099511627776 _ _)) ?_
          try simp only [go_sem, seval]
          repeat (first | (refine And.intro ?_ ?_; · first | (intro _ h1; rw [h1]; rfl)) | refine peel ?_)
          refine hK _ _ _ ?_; clear hK K
          refine awp_cnd (fun hb => ?_) (fun hb => ?_)
          ·skip
           have g9 : cb9 c = true := by simpa [cb9] using hb
           have hres : checkC qc s c = 148 := by unfold checkC; rw [if_neg g1, if_neg g2, if_neg g3, if_neg g4, if_neg g5, if_neg g6, if_neg g7, if_neg g8, if_pos g9]
           refine awp_reg zs [4] fun K hK => ?_
           try simp only [go_sem, seval]
           repeat (first | (refine And.intro ?_ ?_; · first | (intro _ h1; rw [h1]; rfl)) | refine peel ?_)
           refine hK _ _ _ ?_; clear hK K
           refine awp_ret ?_
           try simp only [go_sem, seval]
           exact ⟨_, rfl, k4, Frz.eq (by rw [hres]) trivial⟩
          ·skip
           have g9 : ¬ cb9 c = true := by rw [show cb9 c = false by simpa [cb9] using hb]; simp
           refine awp_skip ?_
           try simp only [go_sem, seval]
           refine hK3 _ _ _ ?_
           first | clear hK3 K3 | skip
           refine awp_seq_jl [3] (fun T' H' n' => T' = tl [(3, .loc (n + 1) 0 0 0 [])] ∧ H' (n + 1) = some (.arr 0 17 [cmdAV c]) ∧ n' = n + 3 ∧ checkC qc s c = tailC c ∧ ∀ k, k < n → H' k = H k) ?_ ?_
           ·skip
            refine awp_reg zs [2, 3, 137] fun K hK => ?_
            try simp only [go_sem, seval, k3, cmdAV, kindAV]
            repeat (first | (refine And.intro ?_ ?_; · first | (intro _ h1; rw [h1]; rfl)) | refine peel ?_)
            refine hK _ _ _ ?_; clear hK K
            refine awp_cnd (fun hb => ?_) (fun hb => ?_)
            ·skip
             have g10 : kQuery c.kind = true := hb
             refine awp_reg zs [3, 8] fun K hK => ?_
             try simp only [go_sem, seval, hagq, hszq, k1, k2, cmdAV]
             repeat (first | (refine And.intro ?_ ?_; · first | (intro _ h1; rw [h1]; rfl)) | refine peel ?_)
             refine callK_use Tryz.func53 rfl rfl rfl ((hq g10 _ _ hG1)) ?_
             try simp only [go_sem, seval]
             repeat (first | (refine And.intro ?_ ?_; · first | (intro _ h1; rw [h1]; rfl)) | refine peel ?_)
             refine hK _ _ _ ?_; clear hK K
             refine awp_reg zs [3, 8, 143] fun K hK => ?_
             try simp only [go_sem, seval, cmdAV]
             repeat (first | (refine And.intro ?_ ?_; · first | (intro _ h1; rw [h1]; rfl)) | refine peel ?_)
             refine hK _ _ _ ?_; clear hK K
             refine awp_cnd (fun hb => ?_) (fun hb => ?_)
             ·skip
              have g11 : (qc != 0) = true := hb
              have hres : checkC qc s c = qc := by unfold checkC; rw [if_neg g1, if_neg g2, if_neg g3, if_neg g4, if_neg g5, if_neg g6, if_neg g7, if_neg g8, if_neg g9, if_pos g10, if_pos g11]
              refine awp_reg zs [4] fun K hK => ?_
              try simp only [go_sem, seval, cmdAV]
              repeat (first | (refine And.intro ?_ ?_; · first | (intro _ h1; rw [h1]; rfl)) | refine peel ?_)
              refine hK _ _ _ ?_; clear hK K
              refine awp_ret ?_
              try simp only [go_sem, seval, cmdAV]
              exact ⟨_, rfl, k4, Frz.eq (by rw [hres]) trivial⟩
             ·skip
              have hres : checkC qc s c = tailC c := by unfold checkC; rw [if_neg g1, if_neg g2, if_neg g3, if_neg g4, if_neg g5, if_neg g6, if_neg g7, if_neg g8, if_neg g9, if_pos g10, if_neg (by rw [show (qc != 0) = false from hb]; simp)]
              refine awp_skip ?_
              try simp only [go_sem, seval, k2, cmdAV]
              exact ⟨hres, k4⟩
            ·skip
             have g10 : ¬ kQuery c.kind = true := by rw [show kQuery c.kind = false from hb]; simp
             refine awp_reg zs [3, 149] fun K hK => ?_
             try simp only [go_sem, seval, hagq, hszq, k2, cmdAV]
             repeat (first | (refine And.intro ?_ ?_; · first | (intro _ h1; rw [h1]; rfl)) | refine peel ?_)
             refine callK_use Tryz.func54 rfl rfl rfl (((c_order_sameQuery c.q zq hc.fams _ _).wk ⟨.refl _, .agg ⟨.nilsl 1, .nilsl 1, .nilsl 1, .nilsl 1, .refl _, .refl _, .refl _, .refl _, .refl _, .nilsl 1, trivial⟩, trivial⟩)) ?_
             try simp only [go_sem, seval]
             repeat (first | (refine And.intro ?_ ?_; · first | (intro _ h1; rw [h1]; rfl)) | refine peel ?_)
             refine hK _ _ _ ?_; clear hK K
             refine awp_cnd (fun hb => ?_) (fun hb => ?_)
             ·skip
              have hres : checkC qc s c = 130 := by unfold checkC; rw [if_neg g1, if_neg g2, if_neg g3, if_neg g4, if_neg g5, if_neg g6, if_neg g7, if_neg g8, if_neg g9, if_neg g10, if_pos hb]
              refine awp_reg zs [4] fun K hK => ?_
              try simp only [go_sem, seval, cmdAV]
              repeat (first | (refine And.intro ?_ ?_; · first | (intro _ h1; rw [h1]; rfl)) | refine peel ?_)
              refine hK _ _ _ ?_; clear hK K
              refine awp_ret ?_
              try simp only [go_sem, seval, cmdAV]
              exact ⟨_, rfl, k4, Frz.eq (by rw [hres]) trivial⟩
             ·skip
              have hres : checkC qc s c = tailC c := by unfold checkC; rw [if_neg g1, if_neg g2, if_neg g3, if_neg g4, if_neg g5, if_neg g6, if_neg g7, if_neg g8, if_neg g9, if_neg g10, if_neg (by rw [hb]; simp)]
              refine awp_skip ?_
              try simp only [go_sem, seval, k2, cmdAV]
              exact ⟨hres, k4⟩
           rintro T1 H4 n1 ⟨rfl, k2, rfl, hres0, k4⟩
           refine awp_seq_k fun K4 hK4 => ?_
           refine awp_reg zs [153] fun K hK => ?_
           try simp only [go_sem, seval, hszq, k2, cmdAV]
           repeat (first | (refine And.intro ?_ ?_; · first | (intro _ h1; rw [h1]; rfl)) | refine peel ?_)
           refine callK_use Tryz.func55 rfl rfl rfl ((c_order_written c hc (by omega) (by omega) _ _ (hG.on k4 (by omega)))) ?_
           try simp only [go_sem, seval, List.length_map]
           repeat (first | (refine And.intro ?_ ?_; · first | (intro _ h1; rw [h1]; rfl)) | refine peel ?_)
           refine hK _ _ _ ?_; clear hK K
           refine awp_cnd (fun hb => ?_) (fun hb => ?_)
           ·skip
            have hres : checkC qc s c = 2 := by rw [hres0, tailC, if_pos (by simpa using hb)]
            refine awp_reg zs [4] fun K hK => ?_
            try simp only [go_sem, seval]
            repeat (first | (refine And.intro ?_ ?_; · first | (intro _ h1; rw [h1]; rfl)) | refine peel ?_)
            refine hK _ _ _ ?_; clear hK K
            refine awp_ret ?_
            try simp only [go_sem, seval]
            exact ⟨_, rfl, k4, Frz.eq (by rw [hres]) trivial⟩
           ·skip
            have hres : checkC qc s c = 0 := by rw [hres0, tailC, if_neg (by simpa using hb)]
            refine awp_skip ?_
            try simp only [go_sem, seval]
            refine hK4 _ _ _ ?_
            first | clear hK4 K4 | skip
            refine awp_reg zs [4] fun K hK => ?_
            try simp only [go_sem, seval]
            repeat (first | (refine And.intro ?_ ?_; · first | (intro _ h1; rw [h1]; rfl)) | refine peel ?_)
            refine hK _ _ _ ?_; clear hK K
            refine awp_ret ?_
            try simp only [go_sem, seval]
            exact ⟨_, rfl, k4, Frz.eq (by rw [hres]) trivial⟩
end Go.Proofs.YtifnhpmeoogedaaGreatDoor
namespace Go.Proofs.YtifnhpmeoogedaaGreatDoor
open Go Go.Sx Go.Rt Go.Proofs
def stepsC (kc kk : Nat) : List (Nat × List AV) := [(66, [.loc kc 0 0 0 [], .loc kk 0 0 0 []]), (68, [.loc kk 0 0 0 [], .loc kc 0 0 0 []]), (70, [.loc kk 0 0 0 [], .loc kc 0 0 0 []]), (74, [.loc kk 0 0 0 [], .loc kc 0 0 0 []]), (75, [.loc kk 0 0 0 [], .loc kc 0 0 0 []])]
theorem c_order_readCmd {b : List UInt8} (hb9 : b.length ≤ 1048576) {kc kk : Nat} {H : Heap} {n : Nat} (hG : GOK 0 2 H n) (hc : kc < n) (hk : kk < n) (h23 : kc ≠ kk) (hgc : 0 < kc) (hgk : 0 < kk) (htc : 2 < kc) (htk : 2 < kk) (hC : H kc = some (.arr 0 17 [cmdAV zc])) (hD : H kk = some (.arr 0 5 [kindAV 0])) :
    ACalls Tryz.prog 65 [bys b, .sl 1 ((stepsC kc kk).map fun x => .fn (.func x.1) [] x.2)] H n (fun res H' n' => n + 2 ≤ n' ∧ (∀ k, k < n → k ≠ kc → k ≠ kk → H' k = H k) ∧ ∃ v, res = .val (.bool v) ∧ ((v = true ∧ ∃ c, rdCmd b = some c ∧ H' kc = some (.arr 0 17 [cmdAV c])) ∨ (v = false ∧ rdCmd b = none))) := by
  refine (c_order_whole hb9 (stepsC kc kk) (by simp [stepsC]) (H := H) (n := n)
    (fun i p H2 n2 => n ≤ n2 ∧ (∃ c, rch b i = some (c, p) ∧ H2 kc = some (.arr 0 17 [cmdAV c]) ∧ H2 kk = some (.arr 0 5 [kindAV c.kind])) ∧ ∀ k, k < n → k ≠ kc → k ≠ kk → H2 k = H k)
    (fun H2 => rch b 5 = none ∧ ∀ k, k < n → k ≠ kc → k ≠ kk → H2 k = H k) ?_ ?_ ⟨Nat.le_refl _, ⟨zc, rfl, hC, hD⟩, fun _ _ _ _ => rfl⟩ ?_).mono ?_
  · rintro i p H2 n2 H3 n3 ⟨h0, ⟨c, h1, h2, h3⟩, h4⟩ h5 h6
    exact ⟨by omega, ⟨c, h1, (h5 kc (by omega) (by omega) (by omega)).trans h2, (h5 kk (by omega) (by omega) (by omega)).trans h3⟩, fun k g1 g2 g3 => (h5 k (by omega) (by omega) (by omega)).trans (h4 k g1 g2 g3)⟩
  · rintro H2 H3 ⟨h1, h2⟩ h3
    exact ⟨h1, fun k g1 g2 g3 => (h3 k g1).trans (h2 k g1 g2 g3)⟩
  · rintro i x hx p H2 n2 hp hn hR ⟨_, ⟨c, h1, h2, h3⟩, h4⟩
    have hi : i < 5 := by
      have := (List.getElem?_eq_some_iff.1 hx).1
      simpa [stepsC] using this
    have fin : ∀ {f : Nat} {args : List AV}, ACalls Tryz.prog f args H2 n2 (StK torn (n + 1) kc kk b H2 n2 (rsi i b c p)) → ACalls Tryz.prog f args H2 n2 (fun res H3 n3 =>
        (∃ q, res = .val (.tup []) ∧ q ≤ b.length ∧ H3 (n + 1) = some (rdO b q) ∧ H3 n = H2 n ∧ n2 ≤ n3 ∧ (n ≤ n3 ∧ (∃ c, rch b (i + 1) = some (c, q) ∧ H3 kc = some (.arr 0 17 [cmdAV c]) ∧ H3 kk = some (.arr 0 5 [kindAV c.kind])) ∧ ∀ k, k < n → k ≠ kc → k ≠ kk → H3 k = H k)) ∨ (res = .pan torn ∧ H3 n = H2 n ∧ n2 ≤ n3 ∧ (rch b 5 = none ∧ ∀ k, k < n → k ≠ kc → k ≠ kk → H3 k = H k))) := fun h => h.mono fun res H3 n3 hh => by
      have hr : rch b (i + 1) = rsi i b c p := by show (rch b i).bind _ = _; rw [h1]; rfl
      cases hs : rsi i b c p with
      | some y =>
        rw [hs] at hh
        obtain ⟨g1, g2, g3, g4, g5, g6, g7⟩ := hh
        exact .inl ⟨y.2, g1, g3, g4, g7 n (by omega) (by omega) (by omega) (by omega), by omega, by omega, ⟨y.1, by rw [hr, hs], g5, g6⟩, fun k e1 e2 e3 => (g7 k (by omega) (by omega) e2 e3).trans (h4 k e1 e2 e3)⟩
      | none =>
        rw [hs] at hh
        obtain ⟨g1, g2, g7⟩ := hh
        exact .inr ⟨g1, g7 n (by omega) (by omega) (by omega) (by omega), g2, rch_dead (by rw [hr, hs]) hi, fun k e1 e2 e3 => (g7 k (by omega) (by omega) e2 e3).trans (h4 k e1 e2 e3)⟩
    have hG2 : GOK 0 2 H2 n2 := ⟨(h4 0 hG.gek (by omega) (by omega)).trans hG.kinds, (h4 2 hG.get (by omega) (by omega)).trans hG.table, by have := hG.gek; omega, by have := hG.get; omega⟩
    have hi' : i = 0 ∨ i = 1 ∨ i = 2 ∨ i = 3 ∨ i = 4 := by omega
    rcases hi' with rfl | rfl | rfl | rfl | rfl <;> (simp only [stepsC, List.getElem?_cons_zero, List.getElem?_cons_succ, Option.some.injEq] at hx; subst hx)
    · simp only [rch, Option.some.injEq, Prod.mk.injEq] at h1
      exact ⟨⟨_, Tryz.func66, rfl, rfl⟩, fin (c_order_Decode_S1 hb9 hp h1.1.symm hG2 (by have := hG.gek; omega) hgc hgk (by omega) (by omega) (by omega) (by omega) (by omega) h23 hR h2 h3)⟩
    · exact ⟨⟨_, Tryz.func68, rfl, rfl⟩, fin (c_order_Decode_S2 hb9 hp (by omega) (by omega) (by omega) (by omega) (by omega) h23 hR h2 h3)⟩
    · exact ⟨⟨_, Tryz.func70, rfl, rfl⟩, fin (c_order_Decode_S3 hb9 hp (by omega) (by omega) (by omega) (by omega) (by omega) h23 hR h2 h3)⟩
    · exact ⟨⟨_, Tryz.func74, rfl, rfl⟩, fin (c_order_Decode_S4 hb9 hp (by omega) (by omega) (by omega) (by omega) (by omega) h23 hR h2 h3)⟩
    · exact ⟨⟨_, Tryz.func75, rfl, rfl⟩, fin (c_order_Decode_S5 hb9 hp (by omega) (by omega) (by omega) (by omega) (by omega) h23 hR h2 h3)⟩
  · rintro res H' n' ⟨hn, ⟨p, hp, rfl, _, ⟨c, h1, h2, h3⟩, h4⟩ | ⟨rfl, h1, h4⟩⟩
    · refine ⟨hn, h4, _, rfl, ?_⟩
      rw [rdCmd_rch, show (stepsC kc kk).length = 5 from rfl] at *
      rw [h1, Option.bind_some]
      by_cases e : p = b.length
      · exact .inl ⟨by simp [e], c, by simp [e], h2⟩
      · exact .inr ⟨by simp; omega, by simp [e]⟩
    · exact ⟨hn, h4, _, rfl, .inr ⟨rfl, by rw [rdCmd_rch, h1]; rfl⟩⟩
set_option maxRecDepth 100000 in
set_option maxHeartbeats 3200000 in
theorem c_order_Decode (s : List Fml) (hs : s.length ≤ 2000000) (b : List UInt8) (hb9 : b.length ≤ 1099511627776) (qc : QryE → Int) {H : Heap} {n : Nat} (hG : GOK 0 2 H n)
    (hq : ∀ c, rdCmd b = some c → kQuery c.kind = true → ∀ H n, GOK 0 2 H n → Ret Tryz.prog 53 [schAV s, qryAV c.q] H n (.int .i64 (qc c.q)) H n) :
    Ret Tryz.prog 26 [schAV s, bys b] H n (.tup [cmdAV (decC qc s b).1, .int .i64 (decC qc s b).2]) H n := by
  have hszs : (schAV s).sz = 1 := rfl
  have hags : (schAV s).isAgg = true := rfl
  have hmos : (schAV s).memOK = true := rfl
  have hcag : ∀ c, (cmdAV c).isAgg = true := fun _ => rfl
  have hcmo : ∀ c, (cmdAV c).memOK = true := fun _ => rfl
  have hb3 : (false == false) = true := rfl
  have hb4 : (true == false) = false := rfl
  have hzsz : cmdZ.sz = 17 := rfl
  have k0 := hs
  have k1 := hs
  have k2 := hs
  refine Ret.fin ?_
  refine acalls_of_awp Tryz.func26 rfl Tryz.ntmps26 (congrArg Array.toList Tryz.results26) (by simp) ?_
  simp only [go_sem]
  refine awp_reg zs [1, 2, 4] fun K hK => ?_
  try simp only [go_sem, seval, Nat.add_assoc]
  refine hK _ _ _ ?_; clear hK K
  refine awp_seq_k fun K1 hK1 => ?_
  refine awp_reg zs [1, 2, 4, 11] fun K hK => ?_
  try simp only [go_sem, seval]
  refine callK_use Tryz.func47 rfl rfl rfl ((by apply c_cell_CheckSchema <;> first | assumption | omega)) ?_
  try simp only [go_sem, seval]
  refine hK _ _ _ ?_; clear hK K
  refine awp_cnd (fun hb => ?_) (fun hb => ?_)
  ·skip
   have hd : decC qc s b = (zc, 28) := by unfold decC; simp_all
   refine awp_reg zs [4, 5] fun K hK => ?_
   try simp only [go_sem, seval]
   refine hK _ _ _ ?_; clear hK K
   refine awp_ret ?_
   try simp only [go_sem, seval]
   first | refine ⟨_, rfl, fun k hk => ?_, ?_⟩ | refine ⟨⟨rfl, by rw [cmdAV_sz]⟩, _, rfl, fun k hk => ?_, ?_⟩
   · (repeat rw [if_neg (by omega)])
     try exact hl1 k hk
   · rw [hd]; first | exact .tup (.cons (cmdZ_frz _ _) (.cons (.kl trivial) .nil)) | exact .tup (.cons (.kl (kl_cmdAV _ _)) (.cons (.kl trivial) .nil))
  ·skip
   have hs0 : schemaE s = 0 := by simp_all
   refine awp_skip ?_
   try simp only [go_sem, seval]
   refine hK1 _ _ _ ?_
   first | clear hK1 K1 | skip
   refine awp_seq_k fun K2 hK2 => ?_
   refine awp_reg zs [1, 2, 4, 15] fun K hK => ?_
   try simp only [go_sem, seval, List.length_map]
   refine hK _ _ _ ?_; clear hK K
   refine awp_cnd (fun hb => ?_) (fun hb => ?_)
   ·skip
    have hd : decC qc s b = (zc, 2) := by have hb8 : 98304 < b.length := by { simp at hb; omega }; unfold decC; simp [hs0, hb8]
    refine awp_reg zs [4, 5] fun K hK => ?_
    try simp only [go_sem, seval]
    refine hK _ _ _ ?_; clear hK K
    refine awp_ret ?_
    try simp only [go_sem, seval]
    first | refine ⟨_, rfl, fun k hk => ?_, ?_⟩ | refine ⟨⟨rfl, by rw [cmdAV_sz]⟩, _, rfl, fun k hk => ?_, ?_⟩
    · (repeat rw [if_neg (by omega)])
      try exact hl1 k hk
    · rw [hd]; first | exact .tup (.cons (cmdZ_frz _ _) (.cons (.kl trivial) .nil)) | exact .tup (.cons (.kl (kl_cmdAV _ _)) (.cons (.kl trivial) .nil))
   ·skip
    have hb8 : b.length ≤ 98304 := by simp at hb; omega
    refine awp_skip ?_
    try simp only [go_sem, seval]
    refine hK2 _ _ _ ?_
    first | clear hK2 K2 | skip
    refine awp_reg zs [1, 2, 4, 6] fun K hK => ?_
    try simp only [go_sem, seval, Nat.add_assoc]
    refine hK _ _ _ ?_; clear hK K
    refine awp_reg zs [1, 2, 4, 6, 7] fun K hK => ?_
    try simp only [go_sem, seval, Nat.add_assoc]
    refine hK _ _ _ ?_; clear hK K
    refine awp_wk_obj (n + 2) (ver := 0) (e := 17) (els := [cmdZ]) (els' := [cmdAV zc]) (by simp [Heap.put, cmdZ]) ⟨cmdZ_wk, trivial⟩ ?_
    refine awp_reg zs [1, 2, 4, 6, 8] fun K hK => ?_
    try simp only [go_sem, seval]
    repeat (first | (refine And.intro ?_ ?_; · first | exact ⟨rfl, fun x hx => by simp only [List.mem_cons, List.not_mem_nil, or_false] at hx; rcases hx with rfl | rfl | rfl | rfl | rfl <;> exact ⟨rfl, rfl⟩⟩) | refine peel ?_)
    have hcall := fun Hc (hgc : GOK 0 2 Hc (n + 4)) h1 h2 => c_order_readCmd (b := b) (H := Hc) (n := n + 4) (kc := n + 2) (kk := n + 3) (by omega) hgc (by omega) (by omega) (by omega) (by have := hG.gek; omega) (by have := hG.gek; omega) (by have := hG.get; omega) (by have := hG.get; omega) h1 h2
    refine callK_useK (args' := [bys b, .sl 1 ((stepsC (n + 2) (n + 3)).map fun x => .fn (.func x.1) [] x.2)]) Tryz.func65 rfl rfl rfl (hcall _ ?_ ?_ ?_) ?_ ?_
    · exact hG.on (fun k hk => by simp only [Heap.put_get]; (repeat rw [if_neg (by omega)])) (by omega)
    · simp [Heap.put]
    · simp [Heap.put, kindAV, kClient, kFree, kOps, kLeast, kQuery]
    rotate_left
    · rintro e9 H9 n9 ⟨_, _, v, h, _⟩; cases h
    rintro rr H1 n1 ⟨hn1, hlow, v, h, hcase⟩
    cases h
    have k0 : H1 n = some (.arr 0 1 [schAV s]) := (hlow n (by omega) (by omega) (by omega)).trans (by simp [Heap.put, schAV])
    have k1 : H1 (n + 1) = some (.arr 0 17 [cmdZ]) := (hlow (n + 1) (by omega) (by omega) (by omega)).trans (by simp [Heap.put, cmdZ])
    have hl1 : ∀ k, k < n → H1 k = H k := fun k hk => (hlow k (by omega) (by omega) (by omega)).trans (by simp only [Heap.put_get]; (repeat rw [if_neg (by omega)]))
    have hG1 : GOK 0 2 H1 n1 := hG.on hl1 (by omega)
    clear hlow
    try simp only [go_sem, seval]
    repeat (first | (refine And.intro ?_ ?_; · first | exact ⟨rfl, fun x hx => by simp only [List.mem_cons, List.not_mem_nil, or_false] at hx; rcases hx with rfl | rfl | rfl | rfl | rfl <;> exact ⟨rfl, rfl⟩⟩) | refine peel ?_)
    refine hK _ _ _ ?_; clear hK K
    refine awp_seq_k fun K3 hK3 => ?_
    rcases hcase with ⟨rfl, c, hcm, k2⟩ | ⟨rfl, hcm⟩
    ·skip
     skip
     refine awp_reg zs [4, 6, 39] fun K hK => ?_
     try simp only [go_sem, seval, k0, k2, cmdAV_sz, hcag, Bool.not_true, hb3, true_implies]
     first | refine callG_use Tryz.func15 rfl rfl rfl (fun hg => (c_order_Check s hs c (rdCmd_fits (by omega) hcm).1 (qc c.q) (hq c hcm) _ _ hG1)) ?_ | ((refine contG_no fun r9 => ?_; try simp only [go_sem, seval, hszs, hags, hmos, k0, k1, k2, bys]); refine callG_use (r := .int .i64 0) Tryz.func15 rfl rfl rfl (fun h => by first | (nomatch h) | (simp at h)) ?_)
     try simp only [go_sem, seval, k2, cmdAV_sz, hcag, Bool.not_true]
     repeat refine peel ?_
     try simp only [go_sem, seval]
     first | refine callG_use Tryz.func55 rfl rfl rfl (fun hg => (c_order_written c (rdCmd_fits (by omega) hcm).1 (rdCmd_fits (by omega) hcm).2.1 (rdCmd_fits (by omega) hcm).2.2 _ _ hG1)) ?_ | ((refine contG_no fun r9 => ?_; try simp only [go_sem, seval, hszs, hags, hmos, k0, k1, k2, bys]); refine callG_use (r := .sl 1 []) Tryz.func55 rfl rfl rfl (fun h => by first | (nomatch h) | (simp at h)) ?_)
     try simp only [go_sem, seval, bys]
     first | refine callG_use Tryz.func77 rfl rfl rfl (fun hg => (c_bytes_Equal (cmdB c) b _ _)) ?_ | (refine callG_use (r := .bool false) Tryz.func77 rfl rfl rfl (fun h => by first | (nomatch h) | (simp at h)) ?_)
     try simp only [go_sem, seval, true_implies]
     repeat refine peel ?_
     refine hK _ _ _ ?_; clear hK K
     refine awp_cnd (fun hb => ?_) (fun hb => ?_)
     ·skip
      have hd : decC qc s b = (zc, 140) := by have hn : ¬(checkC (qc c.q) s c = 0 ∧ cmdB c = b) := (by rintro ⟨e1, e2⟩; simp [e1, e2] at hb); unfold decC; rw [if_neg (by simp [hs0]), if_neg (by omega), hcm]; simp only []; rw [if_neg hn]
      refine awp_reg zs [4, 5] fun K hK => ?_
      try simp only [go_sem, seval, k1]
      repeat refine peel ?_
      refine hK _ _ _ ?_; clear hK K
      refine awp_ret ?_
      try simp only [go_sem, seval]
      first | refine ⟨_, rfl, fun k hk => ?_, ?_⟩ | refine ⟨⟨rfl, by rw [cmdAV_sz]⟩, _, rfl, fun k hk => ?_, ?_⟩
      · (repeat rw [if_neg (by omega)])
        try exact hl1 k hk
      · rw [hd]; first | exact .tup (.cons (cmdZ_frz _ _) (.cons (.kl trivial) .nil)) | exact .tup (.cons (.kl (kl_cmdAV _ _)) (.cons (.kl trivial) .nil))
     ·skip
      have hd : decC qc s b = (c, 0) := by have hn : checkC (qc c.q) s c = 0 ∧ cmdB c = b := (by by_cases e1 : checkC (qc c.q) s c = 0 <;> simp_all); unfold decC; rw [if_neg (by simp [hs0]), if_neg (by omega), hcm]; simp only []; rw [if_pos hn]
      refine awp_skip ?_
      try simp only [go_sem, seval]
      refine hK3 _ _ _ ?_
      first | clear hK3 K3 | skip
      refine awp_reg zs [4, 5] fun K hK => ?_
      try simp only [go_sem, seval, k1, k2, cmdAV_sz, hcag, hcmo, hzsz]
      refine hK _ _ _ ?_; clear hK K
      refine awp_ret ?_
      try simp only [go_sem, seval]
      first | refine ⟨_, rfl, fun k hk => ?_, ?_⟩ | refine ⟨⟨rfl, by rw [cmdAV_sz]⟩, _, rfl, fun k hk => ?_, ?_⟩
      · (repeat rw [if_neg (by omega)])
        try exact hl1 k hk
      · rw [hd]; first | exact .tup (.cons (cmdZ_frz _ _) (.cons (.kl trivial) .nil)) | exact .tup (.cons (.kl (kl_cmdAV _ _)) (.cons (.kl trivial) .nil))
    ·skip
     skip
     refine awp_reg zs [4, 6, 39] fun K hK => ?_
     try simp only [go_sem, seval, k0, Bool.not_false, hb4]
     first | refine callG_use Tryz.func15 rfl rfl rfl (fun hg => (c_order_Check s hs c (rdCmd_fits (by omega) hcm).1 (qc c.q) (hq c hcm) _ _ hG1)) ?_ | ((refine contG_no fun r9 => ?_; try simp only [go_sem, seval, hszs, hags, hmos, k0, k1, k2, bys]); refine callG_use (r := .int .i64 0) Tryz.func15 rfl rfl rfl (fun h => by first | (nomatch h) | (simp at h)) ?_)
     try simp only [go_sem, seval, Bool.not_false]
     repeat refine peel ?_
     try simp only [go_sem, seval, hb4]
     first | refine callG_use Tryz.func55 rfl rfl rfl (fun hg => (c_order_written c (rdCmd_fits (by omega) hcm).1 (rdCmd_fits (by omega) hcm).2.1 (rdCmd_fits (by omega) hcm).2.2 _ _ hG1)) ?_ | ((refine contG_no fun r9 => ?_; try simp only [go_sem, seval, hszs, hags, hmos, k0, k1, k2, bys]); refine callG_use (r := .sl 1 []) Tryz.func55 rfl rfl rfl (fun h => by first | (nomatch h) | (simp at h)) ?_)
     try simp only [go_sem, seval, Bool.not_false]
     first | refine callG_use Tryz.func77 rfl rfl rfl (fun hg => (c_bytes_Equal (cmdB c) b _ _)) ?_ | (refine callG_use (r := .bool false) Tryz.func77 rfl rfl rfl (fun h => by first | (nomatch h) | (simp at h)) ?_)
     try simp only [go_sem, seval, Bool.not_false]
     repeat refine peel ?_
     refine hK _ _ _ ?_; clear hK K
     refine awp_cnd (fun hb => ?_) (fun hb => ?_)
     ·skip
      have hd : decC qc s b = (zc, 140) := by unfold decC; rw [if_neg (by simp [hs0]), if_neg (by omega), hcm]
      refine awp_reg zs [4, 5] fun K hK => ?_
      try simp only [go_sem, seval, k1]
      repeat refine peel ?_
      refine hK _ _ _ ?_; clear hK K
      refine awp_ret ?_
      try simp only [go_sem, seval]
      first | refine ⟨_, rfl, fun k hk => ?_, ?_⟩ | refine ⟨⟨rfl, by rw [cmdAV_sz]⟩, _, rfl, fun k hk => ?_, ?_⟩
      · (repeat rw [if_neg (by omega)])
        try exact hl1 k hk
      · rw [hd]; first | exact .tup (.cons (cmdZ_frz _ _) (.cons (.kl trivial) .nil)) | exact .tup (.cons (.kl (kl_cmdAV _ _)) (.cons (.kl trivial) .nil))
     ·skip
      exact absurd hb (by simp) --dead
end Go.Proofs.YtifnhpmeoogedaaGreatDoor