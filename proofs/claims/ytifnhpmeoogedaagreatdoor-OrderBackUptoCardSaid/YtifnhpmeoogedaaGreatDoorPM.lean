/- Own layer: walks through frames. Of the program; no condition. -/
import Derived.Test.YtifnhpmeoogedaaGreatDoorPL
import Derived.Test.YtifnhpmeoogedaaGreatDoorPJ
import Derived.Test.YtifnhpmeoogedaaGreatDoorPG
import Derived.Test.YtifnhpmeoogedaaGreatDoorPK
set_option linter.unusedSimpArgs false
set_option linter.unusedVariables false
namespace Go.Proofs.YtifnhpmeoogedaaGreatDoor
open Go Go.Sx Go.Rt Go.Proofs Tryz
def HQ : Heap := fun k => if k = 0 then some (.glob 5 Wo) else if k = 2 then some (.glob 1 Ul) else none
theorem gok_HQ {n : Nat} (h1 : 0 < n) (h2 : 2 < n) : GOK 0 2 HQ n := ⟨rfl, rfl, h1, h2⟩
theorem globs_HQ {H : Heap} {n : Nat} (hG : GOK 0 2 H n) : Globs H HQ := fun k o h => by
 unfold HQ at h
 split at h
 ·rename_i e; subst e; cases h
  exact ⟨hG.kinds, 5, Wo, rfl, Xp (fun i : Nat => Zn i) (fun _ => ⟨trivial, trivial, trivial, trivial, trivial, trivial⟩) _⟩
 ·split at h
  ·rename_i e; subst e; cases h
   exact ⟨hG.table, 1, Ul, rfl, Xp (fun n : Int => .int .u32 n) (fun _ => trivial) _⟩
  ·cases h
theorem c_Sum_osl (b : List UInt8) (hb : b.length ≤ 1099511627776) {k ver : Nat} {H : Heap} {n : Nat} (hG : GOK 0 2 H n) (hk : H k = some (.arr ver 1 (b.map Zo))) : Ret prog 165 [.sl 1 [.osl k ver 0 b.length]] H n (.int .u32 (sumF [b])) H n :=
 Ret.lendQ (H0 := HQ) (args' := [.sl 1 ([b].map bys)]) (globs_HQ hG) (.cons (.sl (.cons (.osl hk (Nat.zero_le _) (by simp) (by rw [List.drop_zero, List.take_of_length_le (by simp)]; exact YE _ (ZH _ _))) .nil)) .nil) trivial
   (VE [b] (by simp) (fun x hx => by rw [List.mem_singleton.1 hx]; exact hb) (gok_HQ hG.gek hG.get))
def Wh (n : Nat) : List UInt8 := [ZU ((n : Int) / 16777216), ZU ((n : Int) / 65536), ZU ((n : Int) / 256), ZU (n : Int)]
def frameB (b : List UInt8) : List UInt8 := Wh b.length ++ lowB (sumF [Wh b.length]) ++ b ++ lowB (sumF [b])
theorem fdiv8' (v : Int) : v.fdiv (2 ^ min 8 64) = v / 256 := by rw [show (2 : Int) ^ min 8 64 = 256 by decide, Int.fdiv_eq_ediv_of_nonneg _ (by decide)]
theorem fdiv16' (v : Int) : v.fdiv (2 ^ min 16 64) = v / 65536 := by rw [show (2 : Int) ^ min 16 64 = 65536 by decide, Int.fdiv_eq_ediv_of_nonneg _ (by decide)]
theorem fdiv24' (v : Int) : v.fdiv (2 ^ min 24 64) = v / 16777216 := by rw [show (2 : Int) ^ min 24 64 = 16777216 by decide, Int.fdiv_eq_ediv_of_nonneg _ (by decide)]
theorem c_wire_Frame (b : List UInt8) (hb : b.length ≤ 1048576) {H : Heap} {n : Nat} (hG : GOK 0 2 H n) : Ret prog 166 [bys b] H n (.tup [bys (frameB b), .int .i64 0]) H n := by
 have hG0 := hG
 have hl8 : (Wh b.length ++ lowB (sumF [Wh b.length])).length = 8 := rfl
 have e8 : List.take (Wh b.length ++ lowB (sumF [Wh b.length])).length (List.map Zo (Wh b.length ++ lowB (sumF [Wh b.length]))) = List.map Zo (Wh b.length ++ lowB (sumF [Wh b.length])) := List.take_of_length_le (by simp)
 have e0 : IntKind.i64.wrap ((b.length : Int) + 12) = ((b.length + 12 : Nat) : Int) := by rw [w64 (by omega) (by omega)]; omega
 refine Ret.fin ?_
 refine Zc func166 rfl ntmps166 (congrArg Array.toList results166) (by simp) ?_
 simp only [go_sem]
 refine Za zs [0] fun K hK => ?_
 try simp only [go_sem, seval]
 apply hK; clear hK K
 refine Za zs [0, 4] fun K hK => ?_
 try simp only [go_sem, seval, List.length_map]
 apply hK; clear hK K
 refine Zb fun K1 hK1 => ?_
 refine Za zs [0, 4, 9] fun K hK => ?_
 try simp only [go_sem, seval]
 apply hK; clear hK K
 refine Zf ?_ ?_ <;> intro hb
 ·skip
  exact absurd (of_decide_eq_true hb) (by omega) --dead
 refine Zd ?_
 try simp only [go_sem, seval]
 apply hK1
 clear hK1 K1
 refine Za zs [0, 5] fun K hK => ?_
 try simp only [go_sem, seval, fdiv8', fdiv16', fdiv24', Y0, e0]
 repeat (first | refine peel ?_ | refine ⟨by exact ⟨rfl, by simp [Zo, AV.sz, AV.memOK]⟩, ?_⟩)
 apply hK; clear hK K
 refine Yh (fun H' n' => H' n = some (.arr 1 1 ((Wh b.length).map Zo)) ∧ GOK 0 2 H' n' ∧ (∀ k, k < n → H' k = H k) ∧ n' = n + 1) ⟨Heap.put_same _ _ _, hG.on (fun k hk => Heap.put_ne _ _ (by omega)) (by omega), fun k hk => Heap.put_ne _ _ (by omega), rfl⟩ fun H1 n1 ⟨r1, hG, hl1, hn1⟩ => ?_
 subst hn1
 refine Za zs [0, 5] fun K hK => ?_
 try simp only [go_sem, seval]
 repeat (first | refine peel ?_ | refine ⟨by exact ⟨rfl, by simp [Zo, AV.sz, AV.memOK]⟩, ?_⟩)
 refine Zg func165 rfl rfl rfl ((c_Sum_osl (Wh b.length) (by simp [Wh]) hG r1)) ?_
 refine Zg func189 rfl rfl rfl ((o_wire_low (sumF [Wh b.length]) (Wh b.length) (by simp [Wh]) n 1 r1)) ?_
 try simp only [go_sem, seval, List.length_map, e8]
 repeat (first | refine peel ?_ | refine ⟨by exact ⟨by omega, .inr trivial, by rw [hl8]; omega, by rw [hl8]; omega⟩, ?_⟩)
 apply hK; clear hK K
 refine Yh (fun H' n' => H' n = some (.arr 3 1 ((Wh b.length ++ lowB (sumF [Wh b.length]) ++ b).map Zo)) ∧ GOK 0 2 H' n' ∧ (∀ k, k < n → H' k = H k) ∧ n' = n + 1) ⟨by simp only [Heap.put_same, List.map_append], hG0.on (fun k hk => (Heap.put_ne _ _ (by omega)).trans (hl1 k hk)) (by omega), fun k hk => (Heap.put_ne _ _ (by omega)).trans (hl1 k hk), rfl⟩ fun H2 n2 ⟨r2, hG, hl2, hn2⟩ => ?_
 subst hn2
 rw [← List.length_append]
 refine Za zs [2, 3] fun K hK => ?_
 try simp only [go_sem, seval]
 repeat (first | refine peel ?_ | refine ⟨by exact ⟨rfl, by simp [Zo, AV.sz, AV.memOK]⟩, ?_⟩)
 refine Zg func165 rfl rfl rfl ((VE [b] (by simp) (fun x hx => by rw [List.mem_singleton.1 hx]; omega) hG)) ?_
 refine Zg func189 rfl rfl rfl ((o_wire_low (sumF [b]) (Wh b.length ++ lowB (sumF [Wh b.length]) ++ b) (by rw [List.length_append, hl8]; omega) n 3 r2)) ?_
 try simp only [go_sem, seval]
 apply hK; clear hK K
 refine Ze ?_
 try simp only [go_sem, seval]
 exact ⟨_, rfl, fun k hk => by rw [if_neg (by omega)]; exact hl2 k hk, .tup (.cons (.osl (Heap.put_same _ _ _) (Nat.le_refl _) (by simp) (by rw [List.drop_zero, List.take_of_length_le (by simp)]; exact YE _ (ZH (frameB b) _))) (.cons (.kl trivial) .nil))⟩
theorem or_nat {x y : Nat} (hx : x < 9223372036854775808) (hy : y < 9223372036854775808) : intBits .or .i64 (x : Int) (y : Int) = ((x ||| y : Nat) : Int) ∧ x ||| y < 9223372036854775808 := by
 have h3 : x ||| y < 9223372036854775808 := Nat.or_lt_two_pow (n := 63) hx hy
 refine ⟨?_, h3⟩
 show IntKind.i64.wrap (((BitVec.ofInt 64 (x : Int)) ||| (BitVec.ofInt 64 (y : Int))).toNat : Int) = _
 rw [BitVec.ofInt_natCast, BitVec.ofInt_natCast, BitVec.toNat_or, BitVec.toNat_ofNat, BitVec.toNat_ofNat, Nat.mod_eq_of_lt (by omega), Nat.mod_eq_of_lt (by omega), w64 (by omega) (by omega)]
def hd4 (b : List UInt8) : Nat := (((b.getD 0 0).toNat * 16777216 ||| (b.getD 1 0).toNat * 65536) ||| (b.getD 2 0).toNat * 256) ||| (b.getD 3 0).toNat
theorem hd4_int (b : List UInt8) : intBits .or .i64 (intBits .or .i64 (intBits .or .i64 (IntKind.i64.wrap (IntKind.i64.wrap ((b.getD 0 0).toNat : Int) * 2 ^ min 24 64)) (IntKind.i64.wrap (IntKind.i64.wrap ((b.getD 1 0).toNat : Int) * 2 ^ min 16 64))) (IntKind.i64.wrap (IntKind.i64.wrap ((b.getD 2 0).toNat : Int) * 2 ^ min 8 64))) (IntKind.i64.wrap ((b.getD 3 0).toNat : Int)) = ((hd4 b : Nat) : Int) ∧ hd4 b < 9223372036854775808 := by
 have a0 := (b.getD 0 0).toNat_lt
 have a1 := (b.getD 1 0).toNat_lt
 have a2 := (b.getD 2 0).toNat_lt
 have a3 := (b.getD 3 0).toNat_lt
 unfold hd4
 generalize (b.getD 0 0).toNat = x0 at *
 generalize (b.getD 1 0).toNat = x1 at *
 generalize (b.getD 2 0).toNat = x2 at *
 generalize (b.getD 3 0).toNat = x3 at *
 have e0 : IntKind.i64.wrap (IntKind.i64.wrap (x0 : Int) * 2 ^ min 24 64) = ((x0 * 16777216 : Nat) : Int) := by rw [w64 (n := (x0 : Int)) (by omega) (by omega), show (2 : Int) ^ min 24 64 = 16777216 by decide, w64 (by omega) (by omega)]; omega
 have e1 : IntKind.i64.wrap (IntKind.i64.wrap (x1 : Int) * 2 ^ min 16 64) = ((x1 * 65536 : Nat) : Int) := by rw [w64 (n := (x1 : Int)) (by omega) (by omega), show (2 : Int) ^ min 16 64 = 65536 by decide, w64 (by omega) (by omega)]; omega
 have e2 : IntKind.i64.wrap (IntKind.i64.wrap (x2 : Int) * 2 ^ min 8 64) = ((x2 * 256 : Nat) : Int) := by rw [w64 (n := (x2 : Int)) (by omega) (by omega), show (2 : Int) ^ min 8 64 = 256 by decide, w64 (by omega) (by omega)]; omega
 have e3 : IntKind.i64.wrap (x3 : Int) = (x3 : Int) := w64 (by omega) (by omega)
 rw [e0, e1, e2, e3]
 obtain ⟨h1, h2⟩ := or_nat (x := x0 * 16777216) (y := x1 * 65536) (by omega) (by omega)
 obtain ⟨h3, h4⟩ := or_nat (x := x0 * 16777216 ||| x1 * 65536) (y := x2 * 256) h2 (by omega)
 obtain ⟨h5, h6⟩ := or_nat (x := x0 * 16777216 ||| x1 * 65536 ||| x2 * 256) (y := x3) h4 (by omega)
 rw [h1, h3, h5]
 exact ⟨rfl, h6⟩
def rfN (b : List UInt8) (N : Nat) : List UInt8 × Int × Int :=
 if b.length < 8 then ([], 0, 10)
 else if ((b.drop 4).take 4 == lowB (sumF [b.take 4])) = false then ([], 0, 12)
 else if 1048576 < N then ([], 0, 13)
 else if b.length - 8 < N + 4 then ([], 0, 10)
 else if ((b.drop (8 + N)).take 4 == lowB (sumF [(b.drop 8).take (N)])) = false then ([], 0, 12)
 else ((b.drop 8).take (N), ((8 + N + 4 : Nat) : Int), 0)
def rfQ (b : List UInt8) : List UInt8 × Int × Int := rfN b (hd4 b)
set_option maxHeartbeats 1600000 in
theorem J5 (b : List UInt8) (hb9 : b.length ≤ 1099511627776) {H : Heap} {n : Nat} (hG : GOK 0 2 H n) : Ret prog 143 [bys b, .int .i64 0] H n (.tup [bys (rfQ b).1, .int .i64 (rfQ b).2.1, .int .i64 (rfQ b).2.2]) H n := by
 obtain ⟨N, hNd⟩ : ∃ N, N = hd4 b := ⟨_, rfl⟩
 obtain ⟨hNi, hN⟩ := hd4_int b
 rw [← hNd] at hNi hN
 have hrf : rfQ b = rfN b N := by rw [hNd]; unfold rfQ; rfl
 rw [hrf]
 clear hrf hNd
 have k1 : IntKind.i64.wrap 1 = 1 := by decide
 have k2 : IntKind.i64.wrap 2 = 2 := by decide
 have k3 : IntKind.i64.wrap 3 = 3 := by decide
 have k4 : IntKind.i64.wrap 4 = 4 := by decide
 have k8 : IntKind.i64.wrap 8 = 8 := by decide
 have m1 : (1 : Int).toNat = 1 := rfl
 have m2 : (2 : Int).toNat = 2 := rfl
 have m3 : (3 : Int).toNat = 3 := rfl
 have m4 : (4 : Int).toNat = 4 := rfl
 refine Ret.fin ?_
 refine Zc func143 rfl ntmps143 (congrArg Array.toList results143) (by simp) ?_
 simp only [go_sem]
 refine Za zs [0, 1] fun K hK => ?_
 try simp only [go_sem, seval]
 apply hK; clear hK K
 refine Zb fun K1 hK1 => ?_
 refine Zk ?_
 refine Za zs [0, 1, 9] fun K hK => ?_
 try simp only [go_sem, seval]
 refine Zg func155 rfl rfl rfl ((VD b 0 _ _)) ?_
 try simp only [go_sem, seval]
 apply hK; clear hK K
 refine Zf ?_ ?_ <;> intro hb
 ·skip
  exact absurd (of_decide_eq_true hb) (by omega) --dead
 refine Za zs [0, 1, 13] fun K hK => ?_
 try simp only [go_sem, seval, List.length_map]
 apply hK; clear hK K
 refine Zf ?_ ?_ <;> intro hb
 ·skip
  have h8 : b.length < 8 := by have := of_decide_eq_true hb; rw [w64 (by omega) (by omega)] at this; omega
  have hw : rfN b N = ([], 0, 10) := by unfold rfN; rw [if_pos h8]
  refine Za zs [4, 5, 6] fun K hK => ?_
  try simp only [go_sem, seval]
  apply hK; clear hK K
  refine Ze ?_
  try simp only [go_sem, seval]
  rw [hw]
  exact ⟨_, rfl, .tup (.cons .nilsl (.cons (.kl trivial) (.cons (.kl trivial) .nil)))⟩
 have h8 : 8 ≤ b.length := by have := of_decide_eq_false hb; rw [w64 (by omega) (by omega)] at this; omega
 have e2 : List.take 4 (b.map Zo) = (b.take 4).map Zo := by rw [List.map_take]
 have n0 : nth (b.map Zo) 0 = Zo (b.getD 0 0) := ZG Zo b _ (by omega)
 have n1 : nth (b.map Zo) 1 = Zo (b.getD 1 0) := ZG Zo b _ (by omega)
 have n2 : nth (b.map Zo) 2 = Zo (b.getD 2 0) := ZG Zo b _ (by omega)
 have n3 : nth (b.map Zo) 3 = Zo (b.getD 3 0) := ZG Zo b _ (by omega)
 refine Za zs [0, 1, 19] fun K hK => ?_
 try simp only [go_sem, seval, List.length_map, e2, k4, m4, Option.getD_some]
 repeat (first | refine peel ?_ | (refine And.intro ?_ ?_; · first | exact ⟨by omega, fun m h => h.elim⟩ | exact ⟨rfl, by simp [AV.sz, AV.memOK]⟩))
 refine Zg func165 rfl rfl rfl ((VE [b.take 4] (by simp) (fun x hx => by rw [List.mem_singleton.1 hx, List.length_take]; omega) hG)) ?_
 refine Zg func164 rfl rfl rfl ((c_wire_is b 4 (sumF [b.take 4]) (by omega) hb9 _ _)) ?_
 try simp only [go_sem, seval]
 apply hK; clear hK K
 refine Zf ?_ ?_ <;> intro hb
 ·skip
  have hw : rfN b N = ([], 0, 12) := by unfold rfN; rw [if_neg (by omega), if_pos (by simpa using hb)]
  refine Za zs [4, 5, 6] fun K hK => ?_
  try simp only [go_sem, seval]
  apply hK; clear hK K
  refine Ze ?_
  try simp only [go_sem, seval]
  rw [hw]
  exact ⟨_, rfl, .tup (.cons .nilsl (.cons (.kl trivial) (.cons (.kl trivial) .nil)))⟩
 have hs1 : ((b.drop 4).take 4 == lowB (sumF [b.take 4])) = true := by simpa using hb
 refine Zd ?_
 try simp only [go_sem, seval]
 apply hK1
 clear hK1 K1
 refine YF rfl zs [0, 1, 7] [.m, .m, .q, .q, .q, .q, .m, .m, .q, .q, .q, .q, .q, .q, .m, .m, .q, .q, .q, .q, .q, .q, .m, .m, .q, .q, .q, .q, .q, .q] (by kernel_rfl) (fun _ _ _ _ _ h => h) fun K hK => ?_
 try simp only [go_sem, seval, List.length_map, hNi, n0, n1, n2, n3, k1, k2, k3, m1, m2, m3]
 repeat refine peel ?_
 apply hK; clear hK K
 refine Za zs [0, 1, 7] fun K hK => ?_
 try simp only [go_sem, seval, k8]
 apply hK; clear hK K
 refine Zb fun K2 hK2 => ?_
 refine Zk ?_
 refine Za zs [0, 1, 7, 63] fun K hK => ?_
 try simp only [go_sem, seval]
 apply hK; clear hK K
 refine Zf ?_ ?_ <;> intro hb
 ·skip
  have hw : rfN b N = ([], 0, 13) := by unfold rfN; rw [if_neg (by omega), if_neg (by rw [hs1]; simp), if_pos (by have := of_decide_eq_true hb; omega)]
  refine Za zs [4, 5, 6] fun K hK => ?_
  try simp only [go_sem, seval]
  apply hK; clear hK K
  refine Ze ?_
  try simp only [go_sem, seval]
  rw [hw]
  exact ⟨_, rfl, .tup (.cons .nilsl (.cons (.kl trivial) (.cons (.kl trivial) .nil)))⟩
 have hN2 : ¬ 1048576 < N := by have := of_decide_eq_false hb; omega
 have j1 : IntKind.i64.wrap ((b.length : Int) - 8) = ((b.length - 8 : Nat) : Int) := by rw [w64 (by omega) (by omega)]; omega
 have j2 : IntKind.i64.wrap ((N : Int) + 4) = ((N + 4 : Nat) : Int) := by rw [w64 (by omega) (by omega)]; omega
 have j3 : IntKind.i64.wrap (8 + (N : Int)) = ((8 + N : Nat) : Int) := by rw [w64 (by omega) (by omega)]; omega
 have j4 : IntKind.i64.wrap (((8 + N : Nat) : Int) + 4) = ((8 + N + 4 : Nat) : Int) := by rw [w64 (by omega) (by omega)]; omega
 refine Za zs [0, 1, 7, 66] fun K hK => ?_
 try simp only [go_sem, seval, List.length_map, j1, j2]
 apply hK; clear hK K
 refine Zf ?_ ?_ <;> intro hb
 ·skip
  have hw : rfN b N = ([], 0, 10) := by unfold rfN; rw [if_neg (by omega), if_neg (by rw [hs1]; simp), if_neg hN2, if_pos (by have := of_decide_eq_true hb; omega)]
  refine Za zs [4, 5, 6] fun K hK => ?_
  try simp only [go_sem, seval]
  apply hK; clear hK K
  refine Ze ?_
  try simp only [go_sem, seval]
  rw [hw]
  exact ⟨_, rfl, .tup (.cons .nilsl (.cons (.kl trivial) (.cons (.kl trivial) .nil)))⟩
 have hL : ¬ b.length - 8 < N + 4 := by have := of_decide_eq_false hb; omega
 have m8 : (8 : Int).toNat = 8 := rfl
 have e5 : List.drop 8 (List.take (8 + N) (b.map Zo)) = ((b.drop 8).take (N)).map Zo := by rw [List.take_add, List.drop_append_of_le_length (by simp; omega), List.drop_take_self, List.nil_append, ← List.map_drop, ← List.map_take]
 refine Zd ?_
 try simp only [go_sem, seval]
 apply hK2
 clear hK2 K2
 refine Za zs [0, 1, 7, 8] fun K hK => ?_
 try simp only [go_sem, seval, List.length_map, j3, m8, e5, Option.getD_some, Int.toNat_natCast]
 repeat (first | refine peel ?_ | refine ⟨by exact ⟨by omega, by omega, fun m h => h.elim⟩, ?_⟩)
 apply hK; clear hK K
 refine Zb fun K3 hK3 => ?_
 refine Za zs [1, 7, 8, 88] fun K hK => ?_
 try simp only [go_sem, seval, j3]
 repeat (first | refine peel ?_ | refine ⟨by exact ⟨rfl, by simp [AV.sz, AV.memOK]⟩, ?_⟩)
 refine Zg func165 rfl rfl rfl ((VE [(b.drop 8).take (N)] (by simp) (fun x hx => by rw [List.mem_singleton.1 hx, List.length_take]; omega) hG)) ?_
 refine Zg func164 rfl rfl rfl ((c_wire_is b (8 + N) (sumF [(b.drop 8).take (N)]) (by omega) hb9 _ _)) ?_
 try simp only [go_sem, seval]
 apply hK; clear hK K
 refine Zf ?_ ?_ <;> intro hb
 ·skip
  have hw : rfN b N = ([], 0, 12) := by unfold rfN; rw [if_neg (by omega), if_neg (by rw [hs1]; simp), if_neg hN2, if_neg hL, if_pos (by simpa using hb)]
  refine Za zs [4, 5, 6] fun K hK => ?_
  try simp only [go_sem, seval]
  apply hK; clear hK K
  refine Ze ?_
  try simp only [go_sem, seval]
  rw [hw]
  exact ⟨_, rfl, .tup (.cons .nilsl (.cons (.kl trivial) (.cons (.kl trivial) .nil)))⟩
 have hw : rfN b N = ((b.drop 8).take (N), ((8 + N + 4 : Nat) : Int), 0) := by unfold rfN; rw [if_neg (by omega), if_neg (by rw [hs1]; simp), if_neg hN2, if_neg hL, if_neg (by rw [show ((b.drop (8 + N)).take 4 == lowB (sumF [(b.drop 8).take (N)])) = true by simpa using hb]; simp)]
 refine Zd ?_
 try simp only [go_sem, seval]
 apply hK3
 clear hK3 K3
 refine Za zs [4, 5, 6] fun K hK => ?_
 try simp only [go_sem, seval, j3, j4]
 refine Zg func156 rfl rfl rfl ((QG ((b.drop 8).take (N)) (by rw [List.length_take]; omega) _ _)) ?_
 try simp only [go_sem, seval]
 apply hK; clear hK K
 refine Ze ?_
 try simp only [go_sem, seval]
 rw [hw]
 exact ⟨_, rfl, .kl ⟨ZH _ _, trivial, trivial, trivial⟩⟩
def UD (q : QryE) : List UInt8 := [if q.rev then 1 else 0] ++ Zp q.frm ++ Zp q.to ++ Zm (u64 q.fams.length) ++ (q.fams.flatMap fun f => Zm (u64 f)) ++ Zp q.pre ++ Zm (u64 q.time) ++ Zm (u64 q.n) ++ Zp q.whr
structure Qi (q : QryE) (H : Heap) (n ver M : Nat) (bs : List UInt8) (H' : Heap) (n' : Nat) : Prop where
 q : H' n = some (.arr 0 10 [Zq q])
 b : H' (n + 1) = some (.arr ver 1 (bs.map Zo))
 low : ∀ k, k < n → H' k = H k
 lt : n + 2 ≤ n'
 le : bs.length ≤ M
theorem Qi.app {q : QryE} {H : Heap} {n ver M : Nat} {bs : List UInt8} {H1 : Heap} {m : Nat} (h : Qi q H n ver M bs H1 m) (ys : List UInt8) {X : Option AObj} {zs : List AV} (hz : zs = ys.map Zo) {m' K : Nat} (hm : m ≤ m') (hK : M + ys.length ≤ K) :
   Qi q H n (ver + 1) K (bs ++ ys) ((H1.put m X).put (n + 1) (some (.arr (ver + 1) 1 (bs.map Zo ++ zs)))) m' where
 q := by rw [Heap.put_ne _ _ (by omega), Heap.put_ne _ _ (by have := h.lt; omega)]; exact h.q
 b := by rw [Heap.put_same, List.map_append, hz]
 low := fun k hk => by rw [Heap.put_ne _ _ (by omega), Heap.put_ne _ _ (by have := h.lt; omega)]; exact h.low k hk
 lt := by have := h.lt; omega
 le := by have := h.le; rw [List.length_append]; omega
theorem Yz (b : List UInt8) : List.take b.length (List.map Zo b) = List.map Zo b := List.take_of_length_le (by simp)
set_option maxHeartbeats 3200000 in
theorem c_query_form (q : QryE) (h1 : q.frm.length ≤ 1048576) (h2 : q.to.length ≤ 1048576) (h3 : q.fams.length ≤ 1048576) (h4 : q.pre.length ≤ 1048576) (h5 : q.whr.length ≤ 1048576) (H : Heap) (n : Nat) : Ret prog 167 [Zq q] H n (bys (UD q)) H n := by
 have hsz : (Zq q).sz = 10 := Yg q
 have hQ := hsz
 have hB := hsz
 have g1 := hsz
 have g2 := hsz
 have hnth := hsz
 have hx := hsz
 have f1 : (n = n + 1) = False := by simp
 have f2 : (n + 1 = n) = False := by simp
 refine Ret.fin ?_
 refine Zc func167 rfl ntmps167 (congrArg Array.toList results167) (by simp) ?_
 simp only [go_sem]
 refine Za zs [1] fun K hK => ?_
 try simp only [go_sem, seval, Zq, Zr, bys]
 apply hK; clear hK K
 refine Za zo [1, 3] fun K hK => ?_
 try simp only [go_sem, seval]
 repeat refine peel ?_
 apply hK; clear hK K
 refine YB [1, 3] (fun T' H' n' => T' = tl [(1, .loc n 0 0 0 []), (3, .osl (n + 1) 0 0 1)] ∧ Qi q H n 0 1 [if q.rev then 1 else 0] H' n') ?_ ?_
 ·skip
  refine Za zs [1, 3, 8] fun K hK => ?_
  try simp only [go_sem, seval, f1]
  apply hK; clear hK K
  refine Zf ?_ ?_ <;> intro hb
  ·skip
   refine Zl zs [1, 3] fun K hK => ?_
   try simp only [go_sem, seval]
   apply hK; clear hK K
   try simp only [go_sem, seval]
   exact ⟨Heap.put_ne _ _ (by omega) |>.trans (Heap.put_same _ _ _), by rw [Heap.put_same, hb]; rfl, fun k hk => by (try simp only [Heap.put_get]); (repeat rw [if_neg (by omega)]), Nat.le_refl _, by simp⟩
  refine Zd ?_
  try simp only [go_sem, seval]
  exact ⟨Heap.put_ne _ _ (by omega) |>.trans (Heap.put_same _ _ _), by rw [Heap.put_same, hb]; rfl, fun k hk => by (try simp only [Heap.put_get]); (repeat rw [if_neg (by omega)]), Nat.le_refl _, by simp⟩
 rintro T1 H1 m ⟨rfl, hS⟩
 obtain ⟨b0, hb0⟩ : ∃ b, b = [if q.rev then (1 : UInt8) else 0] := ⟨_, rfl⟩
 rw [← hb0] at hS
 have hb1 : b0.length = 1 := by rw [hb0]; rfl
 rw [show AV.osl (n + 1) 0 0 1 = AV.osl (n + 1) 0 0 b0.length by rw [hb1]]
 have hQ := hS.q
 have hB := hS.b
 have hl := hS.lt
 have hle := hS.le
 have g1 : (n + 1 = m) = False := by simp; omega
 have g2 : (n = m) = False := by simp; omega
 have hy := ZI (v := q.frm.length) (by omega)
 have hz : (Zp q.frm).length = (Zm q.frm.length).length + q.frm.length := by simp [Zp]
 refine Za zs [1, 3] fun K hK => ?_
 try simp only [go_sem, seval, Zq, Zr, bys, hQ]
 refine Zg func147 rfl rfl rfl ((XN q.frm (by omega) _ _)) ?_
 try simp only [go_sem, seval, List.length_map, hB, g1, Yz]
 repeat (first | refine peel ?_ | refine ⟨by exact ⟨Nat.le_refl _, Nat.le_refl _, .inr trivial, by omega, by omega⟩, ?_⟩)
 apply hK; clear hK K
 refine Yh (fun H' n' => Qi q H n (0 + 1) 1048600 (b0 ++ Zp q.frm) H' n') (hS.app (Zp q.frm) rfl (by omega) (by omega)) fun H1 m hS => ?_
 rw [← List.length_append]
 obtain ⟨c1, hc1⟩ : ∃ b, b = b0 ++ Zp q.frm := ⟨_, rfl⟩
 rw [← hc1] at hS ⊢
 have hQ := hS.q
 have hB := hS.b
 have hl := hS.lt
 have hle := hS.le
 have g1 : (n + 1 = m) = False := by simp; omega
 have g2 : (n = m) = False := by simp; omega
 have hy := ZI (v := q.to.length) (by omega)
 have hz : (Zp q.to).length = (Zm q.to.length).length + q.to.length := by simp [Zp]
 refine Za zs [1, 3] fun K hK => ?_
 try simp only [go_sem, seval, Zq, Zr, bys, hQ]
 refine Zg func147 rfl rfl rfl ((XN q.to (by omega) _ _)) ?_
 try simp only [go_sem, seval, List.length_map, hB, g1, Yz]
 repeat (first | refine peel ?_ | refine ⟨by exact ⟨Nat.le_refl _, Nat.le_refl _, .inr trivial, by omega, by omega⟩, ?_⟩)
 apply hK; clear hK K
 refine Yh (fun H' n' => Qi q H n (0 + 1 + 1) 2097200 (c1 ++ Zp q.to) H' n') (hS.app (Zp q.to) rfl (by omega) (by omega)) fun H1 m hS => ?_
 rw [← List.length_append]
 obtain ⟨c2, hc2⟩ : ∃ b, b = c1 ++ Zp q.to := ⟨_, rfl⟩
 rw [← hc2] at hS ⊢
 have hQ := hS.q
 have hB := hS.b
 have hl := hS.lt
 have hle := hS.le
 have g1 : (n + 1 = m) = False := by simp; omega
 have g2 : (n = m) = False := by simp; omega
 have hy := ZI (Xc q.fams.length)
 refine Za zs [1, 3] fun K hK => ?_
 try simp only [go_sem, seval, Zq, Zr, bys, List.length_map, hQ, YJ]
 refine Zg func146 rfl rfl rfl ((Xm (u64 q.fams.length) (Xc _) _ _)) ?_
 try simp only [go_sem, seval, List.length_map, hB, g1, Yz]
 repeat (first | refine peel ?_ | refine ⟨by exact ⟨Nat.le_refl _, Nat.le_refl _, .inr trivial, by omega, by omega⟩, ?_⟩)
 apply hK; clear hK K
 refine Zb fun K1 hK1 => ?_
 refine Yh (fun H' n' => Qi q H n (0 + 1 + 1 + 1) 3000000 (c2 ++ Zm (u64 q.fams.length)) H' n') (hS.app (Zm (u64 q.fams.length)) rfl (by omega) (by omega)) fun H1 m hS => ?_
 rw [← List.length_append]
 obtain ⟨c3, hc3⟩ : ∃ b, b = c2 ++ Zm (u64 q.fams.length) := ⟨_, rfl⟩
 rw [← hc3] at hS ⊢
 have hQ := hS.q
 have hB := hS.b
 have hl := hS.lt
 have hle := hS.le
 have g1 : (n + 1 = m) = False := by simp; omega
 have g2 : (n = m) = False := by simp; omega
 refine Za zs [1, 3, 29, 30, 31] fun K hK => ?_
 try simp only [go_sem, seval, Zq, Zr, bys, List.length_map, hQ]
 apply hK; clear hK K
 refine Zk ?_
 refine Zy (fun T' H' n' => ∃ i : Nat, i ≤ q.fams.length ∧ T' = tl [(1, .loc n 0 0 0 []), (3, .osl (n + 1) (3 + i) 0 (c3 ++ (q.fams.take i).flatMap (fun f => Zm (u64 f))).length), (29, Zr q.fams), (30, .int .i64 q.fams.length), (31, .int .i64 i)] ∧ Qi q H n (3 + i) (3000000 + 10 * i) (c3 ++ (q.fams.take i).flatMap (fun f => Zm (u64 f))) H' n') (fun T' _ _ => q.fams.length - iv (T' 31)) ?_ ?_
 ·skip
  exact ⟨0, Nat.zero_le _, by simp [Zr], by simpa using hS⟩
 intro T1 H1 n1
 rintro ⟨i, hi, rfl, hS⟩
 obtain ⟨m, hm⟩ : ∃ m, m = n1 := ⟨_, rfl⟩
 subst hm
 refine Za zs [1, 3, 29, 30, 31, 32] fun K hK => ?_
 try simp only [go_sem, seval, Zr, Int.toNat_natCast]
 apply hK; clear hK K
 refine Zb fun K2 hK2 => ?_
 refine Zf ?_ ?_ <;> intro hb
 ·skip
  have hlt : i < q.fams.length := by have := of_decide_eq_true hb; omega
  have hx : IntKind.i64.wrap ((i : Int) + 1) = ((i + 1 : Nat) : Int) := w1 (by omega)
  have hnth : nth (q.fams.map fun n => AV.int .i64 n) i = AV.int .i64 (q.fams.getD i 0) := ZG (fun n => AV.int .i64 n) q.fams _ hlt
  have hy := ZI (Xc (q.fams.getD i 0))
  have hts : (q.fams.take (i + 1)).flatMap (fun f => Zm (u64 f)) = (q.fams.take i).flatMap (fun f => Zm (u64 f)) ++ Zm (u64 (q.fams.getD i 0)) := by rw [List.take_succ_eq_append_getElem hlt, List.flatMap_append]; simp [List.getD, hlt]
  obtain ⟨d, hd⟩ : ∃ d, d = c3 ++ (q.fams.take i).flatMap (fun f => Zm (u64 f)) := ⟨_, rfl⟩
  rw [← hd] at hS ⊢
  have hQ := hS.q
  have hB := hS.b
  have hl := hS.lt
  have hle := hS.le
  have g1 : (n + 1 = m) = False := by simp; omega
  have g2 : (n = m) = False := by simp; omega
  refine Zd ?_
  try simp only [go_sem, seval, Zr, Int.toNat_natCast]
  apply hK2
  clear hK2 K2
  refine Zb fun K3 hK3 => ?_
  refine Zk ?_
  refine Za zs [1, 3, 5, 29, 30, 31] fun K hK => ?_
  try simp only [go_sem, seval, Zr, List.length_map, hnth, Int.toNat_natCast]
  repeat refine peel ?_
  apply hK; clear hK K
  refine Zl zs [1, 3, 29, 30, 31] fun K hK => ?_
  try simp only [go_sem, seval, Zr, YJ, Int.toNat_natCast]
  refine Zg func146 rfl rfl rfl ((Xm (u64 (q.fams.getD i 0)) (Xc _) _ _)) ?_
  try simp only [go_sem, seval, List.length_map, hB, g1, Yz]
  repeat (first | refine peel ?_ | refine ⟨by exact ⟨Nat.le_refl _, Nat.le_refl _, .inr trivial, by omega, by omega⟩, ?_⟩)
  apply hK; clear hK K
  try simp only [go_sem, seval, Zr, Int.toNat_natCast]
  apply hK3
  clear hK3 K3
  refine Zl zs [1, 3, 29, 30, 31] fun K hK => ?_
  try simp only [go_sem, seval, Zr, hx, Int.toNat_natCast]
  apply hK; clear hK K
  try simp only [go_sem, seval, Zr, Int.toNat_natCast]
  refine ⟨⟨i + 1, by omega, ?_, ?_⟩, by omega⟩
  ·rw [hts, ← List.append_assoc, ← hd, List.length_append]; simp [Zr]; try rfl
  ·rw [hts, ← List.append_assoc, ← hd]; exact hS.app (Zm (u64 (q.fams.getD i 0))) rfl (by omega) (by omega)
 have hge : i = q.fams.length := by have := of_decide_eq_false hb; omega
 have htk : q.fams.take i = q.fams := List.take_of_length_le (by omega)
 subst hge
 obtain ⟨c4, hc4⟩ : ∃ d, d = c3 ++ (q.fams.take q.fams.length).flatMap (fun f => Zm (u64 f)) := ⟨_, rfl⟩
 rw [← hc4] at hS ⊢
 have hQ := hS.q
 have hB := hS.b
 have hl := hS.lt
 have hle := hS.le
 have g1 : (n + 1 = m) = False := by simp; omega
 have g2 : (n = m) = False := by simp; omega
 have hy := ZI (v := q.pre.length) (by omega)
 have hz : (Zp q.pre).length = (Zm q.pre.length).length + q.pre.length := by simp [Zp]
 refine Zz ?_
 try simp only [go_sem, seval, Zr, Int.toNat_natCast]
 apply hK1
 refine Za zs [1, 3] fun K hK => ?_
 try simp only [go_sem, seval, Zq, Zr, bys, hQ]
 refine Zg func147 rfl rfl rfl ((XN q.pre (by omega) _ _)) ?_
 try simp only [go_sem, seval, List.length_map, hB, g1, Yz]
 repeat (first | refine peel ?_ | refine ⟨by exact ⟨Nat.le_refl _, Nat.le_refl _, .inr trivial, by omega, by omega⟩, ?_⟩)
 apply hK; clear hK K
 refine Yh (fun H' n' => Qi q H n (3 + q.fams.length + 1) 16000000 (c4 ++ Zp q.pre) H' n') (hS.app (Zp q.pre) rfl (by omega) (by omega)) fun H1 m hS => ?_
 rw [← List.length_append]
 obtain ⟨c5, hc5⟩ : ∃ b, b = c4 ++ Zp q.pre := ⟨_, rfl⟩
 rw [← hc5] at hS ⊢
 have hQ := hS.q
 have hB := hS.b
 have hl := hS.lt
 have hle := hS.le
 have g1 : (n + 1 = m) = False := by simp; omega
 have g2 : (n = m) = False := by simp; omega
 have hy := ZI (Xc q.time)
 refine Za zs [1, 3] fun K hK => ?_
 try simp only [go_sem, seval, Zq, Zr, bys, hQ, YJ]
 refine Zg func146 rfl rfl rfl ((Xm (u64 q.time) (Xc _) _ _)) ?_
 try simp only [go_sem, seval, List.length_map, hB, g1, Yz]
 repeat (first | refine peel ?_ | refine ⟨by exact ⟨Nat.le_refl _, Nat.le_refl _, .inr trivial, by omega, by omega⟩, ?_⟩)
 apply hK; clear hK K
 refine Yh (fun H' n' => Qi q H n (3 + q.fams.length + 1 + 1) 16000010 (c5 ++ Zm (u64 q.time)) H' n') (hS.app (Zm (u64 q.time)) rfl (by omega) (by omega)) fun H1 m hS => ?_
 rw [← List.length_append]
 obtain ⟨c6, hc6⟩ : ∃ b, b = c5 ++ Zm (u64 q.time) := ⟨_, rfl⟩
 rw [← hc6] at hS ⊢
 have hQ := hS.q
 have hB := hS.b
 have hl := hS.lt
 have hle := hS.le
 have g1 : (n + 1 = m) = False := by simp; omega
 have g2 : (n = m) = False := by simp; omega
 have hy := ZI (Xc q.n)
 refine Za zs [1, 3] fun K hK => ?_
 try simp only [go_sem, seval, Zq, Zr, bys, hQ, YJ]
 refine Zg func146 rfl rfl rfl ((Xm (u64 q.n) (Xc _) _ _)) ?_
 try simp only [go_sem, seval, List.length_map, hB, g1, Yz]
 repeat (first | refine peel ?_ | refine ⟨by exact ⟨Nat.le_refl _, Nat.le_refl _, .inr trivial, by omega, by omega⟩, ?_⟩)
 apply hK; clear hK K
 refine Yh (fun H' n' => Qi q H n (3 + q.fams.length + 1 + 1 + 1) 16000020 (c6 ++ Zm (u64 q.n)) H' n') (hS.app (Zm (u64 q.n)) rfl (by omega) (by omega)) fun H1 m hS => ?_
 rw [← List.length_append]
 obtain ⟨c7, hc7⟩ : ∃ b, b = c6 ++ Zm (u64 q.n) := ⟨_, rfl⟩
 rw [← hc7] at hS ⊢
 have hQ := hS.q
 have hB := hS.b
 have hl := hS.lt
 have hle := hS.le
 have g1 : (n + 1 = m) = False := by simp; omega
 have g2 : (n = m) = False := by simp; omega
 have hy := ZI (v := q.whr.length) (by omega)
 have hz : (Zp q.whr).length = (Zm q.whr.length).length + q.whr.length := by simp [Zp]
 refine Za zs [2] fun K hK => ?_
 try simp only [go_sem, seval, Zq, Zr, bys, hQ]
 refine Zg func147 rfl rfl rfl ((XN q.whr (by omega) _ _)) ?_
 try simp only [go_sem, seval, List.length_map, hB, g1, Yz]
 repeat (first | refine peel ?_ | refine ⟨by exact ⟨Nat.le_refl _, Nat.le_refl _, .inr trivial, by omega, by omega⟩, ?_⟩)
 apply hK; clear hK K
 refine Ze ?_
 try simp only [go_sem, seval]
 have hF : UD q = c7 ++ Zp q.whr := by unfold UD; rw [hc7, hc6, hc5, hc4, htk, hc3, hc2, hc1, hb0]
 refine ⟨_, rfl, fun k hk => by rw [if_neg (by omega), if_neg (by omega)]; exact hS.low k hk, ?_⟩
 rw [hF, List.map_append]
 exact .osl (Heap.put_same _ _ _) (by omega) (by simp) (by rw [List.drop_zero, List.take_of_length_le (by simp), ← List.map_append]; exact YE _ (ZH _ _))
def tokB (q : QryE) (time : Int) (row : List UInt8) : List UInt8 := frameB (Zm (u64 time) ++ Zp row ++ Zm (u64 (sumF [UD q])))
theorem fz_bys {k ver : Nat} (b : List UInt8) : FzV k ver 1 (b.map Zo) (.osl k ver 0 b.length) (bys b) := by
 have h := FzV.osl (k := k) (ver := ver) (e := 1) (els := b.map Zo) (off := 0) (len := b.length) (by simp)
 rwa [List.drop_zero, List.take_of_length_le (by simp)] at h
theorem formB_len {q : QryE} (h : q.fine) : (UD q).length ≤ 20000000 := by
 have h1 := ZI (v := q.frm.length) (by have := h.frm; omega)
 have h2 := ZI (v := q.to.length) (by have := h.to; omega)
 have h3 := ZI (Xc q.fams.length)
 have h4 := ZI (v := q.pre.length) (by have := h.pre; omega)
 have h5 := ZI (Xc q.time)
 have h6 := ZI (Xc q.n)
 have h7 := ZI (v := q.whr.length) (by have := h.whr; omega)
 have h8 : ∀ l : List Int, (l.flatMap fun f => Zm (u64 f)).length ≤ 10 * l.length := fun l => by
   induction l with
   | nil => simp
   | cons a l ih => have := ZI (Xc a); rw [List.flatMap_cons, List.length_append, List.length_cons]; omega
 have h9 := h8 q.fams
 have := h.frm; have := h.to; have := h.fams; have := h.pre; have := h.whr
 unfold UD Zp
 simp only [List.length_append, List.length_cons, List.length_nil]
 omega
theorem Qw (q : QryE) (hq : q.fine) (time : Int) (row : List UInt8) (hr : row.length ≤ 256) {H : Heap} {n : Nat} (hG : GOK 0 2 H n) : Ret prog 145 [.agg [.int .i64 time, bys row], Zq q] H n (bys (tokB q time row)) H n := by
 have hsz : (Zq q).sz = 10 := Yg q
 have hag : (Zq q).isAgg = true := rfl
 have hmo : (Zq q).memOK = true := rfl
 have hG0 := hG
 have r1 := hsz
 have r2 := hsz
 have g1 := hsz
 have hy := ZI (v := row.length) (by omega)
 have hz : (Zp row).length = (Zm row.length).length + row.length := by simp [Zp]
 have hy2 := ZI (Xc time)
 have hy3 := ZI (Xc (sumF [UD q]))
 have f1 : (n = n + 1) = False := by simp
 have f2 : (n + 1 = n) = False := by simp
 have f3 : (n + 1 = n + 2) = False := by simp
 have f4 : (n = n + 2) = False := by simp
 have f5 : (n + 2 = n + 2 + 1) = False := by simp
 have f6 : (n + 2 + 1 = n + 2) = False := by simp
 refine Ret.fin ?_
 refine Zc func145 rfl ntmps145 (congrArg Array.toList results145) (by simp) ?_
 simp only [go_sem]
 refine Za zs [2, 3] fun K hK => ?_
 try simp only [go_sem, seval, hsz, hmo]
 apply hK; clear hK K
 refine VS rfl zs [3, 5] [.q, .q, .q, .w [4, 5], .q, .q, .w [], .w [], .q] [0, 1, 2, 4, 5, 3, 6, 7, 8] [0, 1, 2, 5, 3, 4, 6, 7, 8] (by kernel_rfl) (fun _ _ _ _ _ h => h) fun K hK => ?_
 try simp only [go_sem, seval, f1, YJ]
 refine Zg func146 rfl rfl rfl ((Xm (u64 time) (Xc _) _ _)) ?_
 try simp only [go_sem, seval, f1, f4]
 refine Zg func147 rfl rfl rfl ((XN row (by omega) _ _)) ?_
 try simp only [go_sem, seval, f5, Yz, List.length_map]
 repeat (first | refine peel ?_ | refine ⟨by exact ⟨Nat.le_refl _, Nat.le_refl _, .inr trivial, by omega, by omega⟩, ?_⟩)
 apply hK; clear hK K
 refine Yh (fun H' n' => H' (n + 1) = some (.arr 0 10 [Zq q]) ∧ H' (n + 2) = some (.arr ((Zm (u64 time)).length + 1) 1 ((Zm (u64 time) ++ Zp row).map Zo)) ∧ GOK 0 2 H' n' ∧ (∀ k, k < n → H' k = H k) ∧ n + 4 ≤ n') ⟨by (try simp only [Heap.put_get]); simp, by rw [Heap.put_same, List.map_append], hG0.on (fun k hk => by (try simp only [Heap.put_get]); (repeat rw [if_neg (by omega)])) (by omega), fun k hk => by (try simp only [Heap.put_get]); (repeat rw [if_neg (by omega)]), by omega⟩ fun H1 m ⟨r1, r2, hG, hl1, hm⟩ => ?_
 rw [← List.length_append]
 have g1 : (n + 2 = m) = False := by simp; omega
 have hbl : (Zm (u64 time) ++ Zp row).length ≤ 300 := by rw [List.length_append]; omega
 have e9 : List.take (Zm (u64 time) ++ Zp row).length (List.map Zo (Zm (u64 time) ++ Zp row)) = List.map Zo (Zm (u64 time) ++ Zp row) := Yz _
 refine Za zs [6] fun K hK => ?_
 try simp only [go_sem, seval, hsz, hag, r1]
 refine Zg func167 rfl rfl rfl ((c_query_form q hq.frm hq.to hq.fams hq.pre hq.whr _ _)) ?_
 try simp only [go_sem, seval]
 repeat (first | refine peel ?_ | refine ⟨by exact ⟨rfl, by simp [AV.sz, AV.memOK]⟩, ?_⟩)
 refine Zg func165 rfl rfl rfl ((VE [UD q] (by simp) (fun x hx => by rw [List.mem_singleton.1 hx]; have := formB_len hq; omega) hG)) ?_
 try simp only [go_sem, seval, YJ]
 refine Zg func146 rfl rfl rfl ((Xm (u64 (sumF [UD q])) (Xc _) _ _)) ?_
 try simp only [go_sem, seval, g1, r2, Yz, List.length_map, e9]
 repeat (first | refine peel ?_ | refine ⟨by exact ⟨Nat.le_refl _, Nat.le_refl _, .inr trivial, by omega, by omega⟩, ?_⟩)
 rw [← List.length_append, ← List.map_append]
 refine Zg func166 rfl rfl rfl (Ret.frzK (args := [.osl (n + 2) ((Zm (u64 time)).length + 2) 0 (Zm (u64 time) ++ Zp row ++ Zm (u64 (sumF [UD q]))).length]) (args' := [bys (Zm (u64 time) ++ Zp row ++ Zm (u64 (sumF [UD q])))]) (n + 2) (Heap.put_same _ _ _) ⟨fz_bys _, trivial⟩ (c_wire_Frame (Zm (u64 time) ++ Zp row ++ Zm (u64 (sumF [UD q]))) (by rw [List.length_append]; omega) (hG0.on (fun k hk => by rw [Heap.put_ne _ _ (by omega), Heap.put_ne _ _ (by omega), Heap.put_ne _ _ (by omega)]; exact hl1 k hk) (by omega)))) ?_
 try simp only [go_sem, seval]
 apply hK; clear hK K
 refine Za zs [4] fun K hK => ?_
 try simp only [go_sem, seval]
 apply hK; clear hK K
 refine Ze ?_
 try simp only [go_sem, seval]
 exact ⟨_, rfl, fun k hk => by (try simp only [Heap.put_get]); (repeat rw [if_neg (by omega)]); exact hl1 k hk, .kl (ZH (tokB q time row) _)⟩
def readQ (q : QryE) : Int × List UInt8 × Int :=
 if q.token.length = 0 then (0, [], 0)
 else if (rfQ q.token).2.2 ≠ 0 then (0, [], 132)
 else if (ruB (rfQ q.token).1 0).2.2 ≠ 0 ∨ (ruB (rfQ q.token).1 0).1 < 1 ∨ 1099511627776 < (ruB (rfQ q.token).1 0).1 ∨ (q.time ≠ 0 ∧ (ruB (rfQ q.token).1 0).1 ≠ u64 q.time) then (0, [], 132)
 else if (rbB (rfQ q.token).1 (ruB (rfQ q.token).1 0).2.1 256).2.2 ≠ 0 ∨ (rbB (rfQ q.token).1 (ruB (rfQ q.token).1 0).2.1 256).1.length = 0 ∨ asksB q (rbB (rfQ q.token).1 (ruB (rfQ q.token).1 0).2.1 256).1 = false ∨ (tokB q (ruB (rfQ q.token).1 0).1 (rbB (rfQ q.token).1 (ruB (rfQ q.token).1 0).2.1 256).1 == q.token) = false then (0, [], 132)
 else (((ruB (rfQ q.token).1 0).1 : Int), (rbB (rfQ q.token).1 (ruB (rfQ q.token).1 0).2.1 256).1, 0)
theorem rbB_most (b : List UInt8) (p most : Nat) : (rbB b p most).1.length ≤ most := by
 unfold rbB
 repeat' split
 all_goals first | simp | skip
 omega
theorem rfQ_len (b : List UInt8) : (rfQ b).1.length ≤ b.length := by
 unfold rfQ rfN
 repeat' split
 all_goals first | simp | skip
 exact Nat.le_trans (Nat.min_le_right _ _) (Nat.sub_le _ _)
theorem c_tok_quiet (q : QryE) (hq : q.fine) (time : Int) (row : List UInt8) (hr : row.length ≤ 256) {H : Heap} (ha : H 0 = some (.glob 5 Wo)) (hb : H 2 = some (.glob 1 Ul)) (n : Nat) : Ret prog 145 [.agg [.int .i64 time, bys row], Zq q] H n (bys (tokB q time row)) H n :=
 Ret.below ha fun g1 => Ret.below hb fun g2 => Qw q hq time row hr ⟨ha, hb, g1, g2⟩
set_option maxHeartbeats 3200000 in
theorem Js (q : QryE) (hq : q.fine) {H : Heap} {n : Nat} (hG : GOK 0 2 H n) : Ret prog 111 [Zq q] H n (.tup [.agg [.int .i64 (readQ q).1, bys (readQ q).2.1], .int .i64 (readQ q).2.2]) H n := by
 have hsz : (Zq q).sz = 10 := Yg q
 have hag : (Zq q).isAgg = true := rfl
 have hmo : (Zq q).memOK = true := rfl
 obtain ⟨z, hz⟩ : ∃ z, z = readQ q := ⟨_, rfl⟩
 rw [← hz]
 unfold readQ at hz
 have hfl := rfQ_len q.token
 have htl := hq.token
 obtain ⟨fr, hfr⟩ : ∃ f, f = rfQ q.token := ⟨_, rfl⟩
 rw [← hfr] at hz hfl
 obtain ⟨hu1, hu2, hu3⟩ := ruB_lt fr.1 0
 obtain ⟨u, hu⟩ : ∃ u, u = ruB fr.1 0 := ⟨_, rfl⟩
 rw [← hu] at hz hu1 hu2 hu3
 have hbm := rbB_most fr.1 u.2.1 256
 obtain ⟨rb, hrb⟩ : ∃ b, b = rbB fr.1 u.2.1 256 := ⟨_, rfl⟩
 rw [← hrb] at hz hbm
 have hx := hsz
 have hgk := hG.gek
 have hgt := hG.get
 have f1 : (n = n + 1) = False := by simp
 have f2 : (n + 1 = n) = False := by simp
 have f3 : (n = n + 2) = False := by simp
 have f4 : (n + 1 = n + 2) = False := by simp
 have f5 : (n + 2 = n) = False := by simp
 have f6 : (n + 2 = n + 1) = False := by simp
 refine Ret.fin ?_
 refine Zc func111 rfl ntmps111 (congrArg Array.toList results111) (by simp) ?_
 simp only [go_sem]
 refine Za zs [1, 2] fun K hK => ?_
 try simp only [go_sem, seval, Zq, Zr, bys]
 apply hK; clear hK K
 refine Zb fun K1 hK1 => ?_
 refine Za zs [1, 2, 15] fun K hK => ?_
 try simp only [go_sem, seval, f1, List.length_map]
 apply hK; clear hK K
 refine Zf ?_ ?_ <;> intro hb
 ·skip
  have h0 : q.token.length = 0 := by have h9 := hb; simp at h9; simp [h9]
  rw [if_pos h0] at hz
  refine Za zs [2, 3] fun K hK => ?_
  try simp only [go_sem, seval]
  apply hK; clear hK K
  refine Ze ?_
  try simp only [go_sem, seval]
  rw [hz]
  exact ⟨_, rfl, fun k hk => by (try simp only [Heap.put_get]); (repeat rw [if_neg (by omega)]), .tup (.cons (.agg (.cons (.kl trivial) (.cons .nilsl .nil))) (.cons (.kl trivial) .nil))⟩
 have h0 : ¬ q.token.length = 0 := by have h9 := hb; simp at h9; simp [h9]
 rw [if_neg h0] at hz
 refine Zd ?_
 try simp only [go_sem, seval]
 apply hK1
 clear hK1 K1
 refine Za zs [1, 2, 4, 6] fun K hK => ?_
 try simp only [go_sem, seval, f1]
 refine Zg func143 rfl rfl rfl ((hfr ▸ J5 q.token (by omega) (hG.on (fun k hk => by (try simp only [Heap.put_get]); (repeat rw [if_neg (by omega)])) (by omega)))) ?_
 try simp only [go_sem, seval, bys]
 apply hK; clear hK K
 refine Zb fun K2 hK2 => ?_
 refine Za zs [1, 2, 4, 25] fun K hK => ?_
 try simp only [go_sem, seval]
 apply hK; clear hK K
 refine Zf ?_ ?_ <;> intro hb
 ·skip
  rw [if_pos (by simpa using hb)] at hz
  refine Za zs [2, 3] fun K hK => ?_
  try simp only [go_sem, seval]
  apply hK; clear hK K
  refine Ze ?_
  try simp only [go_sem, seval]
  rw [hz]
  exact ⟨_, rfl, fun k hk => by (try simp only [Heap.put_get]); (repeat rw [if_neg (by omega)]), .tup (.cons (.agg (.cons (.kl trivial) (.cons .nilsl .nil))) (.cons (.kl trivial) .nil))⟩
 rw [if_neg (by simpa using hb)] at hz
 refine Zd ?_
 try simp only [go_sem, seval]
 apply hK2
 clear hK2 K2
 refine Za zs [1, 2, 4, 6, 7, 8] fun K hK => ?_
 try simp only [go_sem, seval]
 refine Zg func128 rfl rfl rfl ((hu ▸ Vd fr.1 0 (by omega) (by omega) _ _)) ?_
 try simp only [go_sem, seval, ruAV]
 apply hK; clear hK K
 refine Zb fun K3 hK3 => ?_
 refine Za zs [1, 2, 4, 7, 8, 54] fun K hK => ?_
 try simp only [go_sem, seval, f1, YJ]
 repeat refine peel ?_
 apply hK; clear hK K
 refine Zf ?_ ?_ <;> intro hb
 ·skip
  have hc : u.2.2 ≠ 0 ∨ u.1 < 1 ∨ 1099511627776 < u.1 ∨ (q.time ≠ 0 ∧ u.1 ≠ u64 q.time) := by grind
  rw [if_pos hc] at hz
  refine Za zs [2, 3] fun K hK => ?_
  try simp only [go_sem, seval]
  apply hK; clear hK K
  refine Ze ?_
  try simp only [go_sem, seval]
  rw [hz]
  exact ⟨_, rfl, fun k hk => by (try simp only [Heap.put_get]); (repeat rw [if_neg (by omega)]), .tup (.cons (.agg (.cons (.kl trivial) (.cons .nilsl .nil))) (.cons (.kl trivial) .nil))⟩
 have hc : ¬ (u.2.2 ≠ 0 ∨ u.1 < 1 ∨ 1099511627776 < u.1 ∨ (q.time ≠ 0 ∧ u.1 ≠ u64 q.time)) := by grind
 rw [if_neg hc] at hz
 have hx : IntKind.i64.wrap (u.1 : Int) = (u.1 : Int) := w64 (by omega) (by omega)
 refine Zd ?_
 try simp only [go_sem, seval]
 apply hK3
 clear hK3 K3
 refine Za zs [1, 2, 6, 7, 9] fun K hK => ?_
 try simp only [go_sem, seval]
 refine Zg func130 rfl rfl rfl ((hrb ▸ Uc fr.1 u.2.1 256 (by omega) (by omega) (by omega) _ _)) ?_
 try simp only [go_sem, seval, rbAV, bys]
 apply hK; clear hK K
 refine Za zs [1, 2, 6, 9, 11] fun K hK => ?_
 try simp only [go_sem, seval, hx]
 repeat refine peel ?_
 apply hK; clear hK K
 refine Zb fun K4 hK4 => ?_
 refine YF rfl zs [2, 11, 88] [.m, .q, .m, .m, .q, .q, .q, .m, .q, .m, .c, .q, .q, .m, .q, .q, .c, .q, .q, .c, .q, .q] (by kernel_rfl) (fun _ _ _ _ _ h => h) fun K hK => ?_
 try simp only [go_sem, seval, f1, f3, List.length_map]
 repeat refine peel ?_
 refine ZL func144 rfl rfl rfl (fun _ n => (c_query_asks q rb.1 _ _)) ?_
 try simp only [go_sem, seval, f1, f3]
 repeat refine peel ?_
 refine ZL func145 rfl rfl rfl (fun _ n => (c_tok_quiet q hq u.1 rb.1 hbm (by (try simp only [Heap.put_get]); (repeat rw [if_neg (by omega)]); exact hG.kinds) (by (try simp only [Heap.put_get]); (repeat rw [if_neg (by omega)]); exact hG.table) n)) ?_
 try simp only [go_sem, seval, bys]
 refine ZL func77 rfl rfl rfl (fun _ n => (Yi (tokB q u.1 rb.1) q.token _ _)) ?_
 try simp only [go_sem, seval]
 repeat refine peel ?_
 apply hK; clear hK K
 refine Zf ?_ ?_ <;> intro hb
 ·skip
  have hc2 : rb.2.2 ≠ 0 ∨ rb.1.length = 0 ∨ asksB q rb.1 = false ∨ (tokB q u.1 rb.1 == q.token) = false := by grind
  rw [if_pos hc2] at hz
  refine Za zs [2, 3] fun K hK => ?_
  try simp only [go_sem, seval, f4]
  apply hK; clear hK K
  refine Ze ?_
  try simp only [go_sem, seval]
  rw [hz]
  exact ⟨_, rfl, fun k hk => by (try simp only [Heap.put_get]); (repeat rw [if_neg (by omega)]), .tup (.cons (.agg (.cons (.kl trivial) (.cons .nilsl .nil))) (.cons (.kl trivial) .nil))⟩
 have hc2 : ¬ (rb.2.2 ≠ 0 ∨ rb.1.length = 0 ∨ asksB q rb.1 = false ∨ (tokB q u.1 rb.1 == q.token) = false) := by grind
 rw [if_neg hc2] at hz
 refine Zd ?_
 try simp only [go_sem, seval]
 apply hK4
 clear hK4 K4
 refine Za zs [2, 3] fun K hK => ?_
 try simp only [go_sem, seval, f4]
 apply hK; clear hK K
 refine Ze ?_
 try simp only [go_sem, seval]
 rw [hz]
 exact ⟨_, rfl, fun k hk => by (try simp only [Heap.put_get]); (repeat rw [if_neg (by omega)]), .kl ⟨⟨trivial, ZH _ _, trivial⟩, trivial, trivial⟩⟩
def qcE (fs : List Fml) (q : QryE) : Int :=
 if Z7 fs ≠ 0 then Z7 fs
 else if UV fs.length q = false then 130
 else if 0 < q.whr.length ∧ (Vr fs q.whr).2.1 ≠ 0 then (Vr fs q.whr).2.1
 else (readQ q).2.2
theorem qcE_nums {fs : List Fml} {q : QryE} (h : qcE fs q = 0) : q.nums := by
 unfold qcE at h
 split at h
 ·rename_i h0; exact absurd h h0
 ·rename_i h0
  split at h
  ·exact absurd h (by decide)
  ·rename_i h1
   have hs : fs.length ≤ 8 := schemaE_le (by simpa using h0)
   exact fitsQ_nums hs (by simpa using h1)
set_option maxHeartbeats 1600000 in
theorem c_query_Check (fs : List Fml) (hfs : fs.length ≤ 1048576) (q : QryE) (hq : q.fine) {H : Heap} {n : Nat} (hG : GOK 0 2 H n) : Ret prog 53 [Zu fs, Zq q] H n (.int .i64 (qcE fs q)) H n := by
 have hsz : (Zq q).sz = 10 := Yg q
 have hag : (Zq q).isAgg = true := rfl
 have hmo : (Zq q).memOK = true := rfl
 have hszs : (Zu fs).sz = 1 := rfl
 have hags : (Zu fs).isAgg = true := rfl
 have hmos : (Zu fs).memOK = true := rfl
 obtain ⟨z, hz⟩ : ∃ z, z = qcE fs q := ⟨_, rfl⟩
 rw [← hz]
 unfold qcE at hz
 have f1 : (n = n + 1) = False := by simp
 have f2 : (n + 1 = n) = False := by simp
 refine Ret.fin ?_
 refine Zc func53 rfl ntmps53 (congrArg Array.toList results53) (by simp) ?_
 simp only [go_sem]
 refine Za zs [2, 3] fun K hK => ?_
 try simp only [go_sem, seval, Zq, Zr, bys]
 apply hK; clear hK K
 refine Zb fun K1 hK1 => ?_
 refine Za zs [2, 3, 5] fun K hK => ?_
 try simp only [go_sem, seval, f1]
 refine Zg func47 rfl rfl rfl ((Xr fs _ _)) ?_
 try simp only [go_sem, seval]
 apply hK; clear hK K
 refine Za zs [2, 3, 5, 14] fun K hK => ?_
 try simp only [go_sem, seval]
 apply hK; clear hK K
 refine Zf ?_ ?_ <;> intro hb
 ·skip
  rw [if_pos (by simpa using hb)] at hz
  refine Za zs [4] fun K hK => ?_
  try simp only [go_sem, seval]
  apply hK; clear hK K
  refine Ze ?_
  try simp only [go_sem, seval]
  rw [hz]
  exact ⟨_, rfl, fun k hk => by (try simp only [Heap.put_get]); (repeat rw [if_neg (by omega)]), .kl trivial⟩
 rw [if_neg (by simpa using hb)] at hz
 refine Zd ?_
 try simp only [go_sem, seval]
 apply hK1
 clear hK1 K1
 refine Zb fun K2 hK2 => ?_
 refine Za zs [2, 3, 19] fun K hK => ?_
 try simp only [go_sem, seval, f1]
 refine Zg func109 rfl rfl rfl ((c_query_fits fs hfs q hq.fams _ _)) ?_
 try simp only [go_sem, seval]
 apply hK; clear hK K
 refine Zf ?_ ?_ <;> intro hb
 ·skip
  rw [if_pos (by simpa using hb)] at hz
  refine Za zs [4] fun K hK => ?_
  try simp only [go_sem, seval]
  apply hK; clear hK K
  refine Ze ?_
  try simp only [go_sem, seval]
  rw [hz]
  exact ⟨_, rfl, fun k hk => by (try simp only [Heap.put_get]); (repeat rw [if_neg (by omega)]), .kl trivial⟩
 rw [if_neg (by simpa using hb)] at hz
 refine Zd ?_
 try simp only [go_sem, seval]
 apply hK2
 clear hK2 K2
 refine Zb fun K3 hK3 => ?_
 refine Za zs [2, 3, 23] fun K hK => ?_
 try simp only [go_sem, seval]
 apply hK; clear hK K
 refine Zf ?_ ?_ <;> intro hb
 ·skip
  have hw0 : 0 < q.whr.length := by have := of_decide_eq_true hb; omega
  refine Za zs [3, 7] fun K hK => ?_
  try simp only [go_sem, seval, f1]
  refine Zg func110 rfl rfl rfl ((QX fs hfs q.whr _ _)) ?_
  try simp only [go_sem, seval]
  apply hK; clear hK K
  refine Za zs [3, 7, 33] fun K hK => ?_
  try simp only [go_sem, seval]
  apply hK; clear hK K
  refine Zf ?_ ?_ <;> intro hb
  ·skip
   rw [if_pos ⟨hw0, by simpa using hb⟩] at hz
   refine Za zs [4] fun K hK => ?_
   try simp only [go_sem, seval]
   apply hK; clear hK K
   refine Ze ?_
   try simp only [go_sem, seval]
   rw [hz]
   exact ⟨_, rfl, fun k hk => by (try simp only [Heap.put_get]); (repeat rw [if_neg (by omega)]), .kl trivial⟩
  rw [if_neg (fun h => h.2 (by simpa using hb))] at hz
  refine Zd ?_
  try simp only [go_sem, seval]
  apply hK3
  clear hK3 K3
  refine Za zs [10] fun K hK => ?_
  try simp only [go_sem, seval]
  refine Zg func111 rfl rfl rfl ((Js q hq (hG.on (fun k hk => by (try simp only [Heap.put_get]); (repeat rw [if_neg (by omega)])) (by omega)))) ?_
  try simp only [go_sem, seval, bys]
  apply hK; clear hK K
  refine Za zs [4] fun K hK => ?_
  try simp only [go_sem, seval]
  apply hK; clear hK K
  refine Ze ?_
  try simp only [go_sem, seval]
  rw [hz]
  exact ⟨_, rfl, fun k hk => by (try simp only [Heap.put_get]); (repeat rw [if_neg (by omega)]), .kl trivial⟩
 rw [if_neg (fun h => by have := of_decide_eq_false hb; omega)] at hz
 refine Zd ?_
 try simp only [go_sem, seval]
 apply hK3
 clear hK3 K3
 refine Za zs [10] fun K hK => ?_
 try simp only [go_sem, seval]
 refine Zg func111 rfl rfl rfl ((Js q hq (hG.on (fun k hk => by (try simp only [Heap.put_get]); (repeat rw [if_neg (by omega)])) (by omega)))) ?_
 try simp only [go_sem, seval, bys]
 apply hK; clear hK K
 refine Za zs [4] fun K hK => ?_
 try simp only [go_sem, seval]
 apply hK; clear hK K
 refine Ze ?_
 try simp only [go_sem, seval]
 rw [hz]
 exact ⟨_, rfl, fun k hk => by (try simp only [Heap.put_get]); (repeat rw [if_neg (by omega)]), .kl trivial⟩
theorem fits_fine {c : CmdE} (h : c.fits) : c.q.fine := ⟨h.frm, h.to, h.fams, h.pre, h.whr, h.token⟩
theorem hq_all (fs : List Fml) (hfs : fs.length ≤ 1048576) (c : CmdE) (hc : c.fits) : Yb c.kind = true → ∀ H n, GOK 0 2 H n → Ret prog 53 [Zu fs, Zq c.q] H n (.int .i64 (qcE fs c.q)) H n :=
 fun _ _ _ hG => c_query_Check fs hfs c.q (fits_fine hc) hG
theorem q_Encode (fs : List Fml) (hfs : fs.length ≤ 1048576) (c : CmdE) (hc : c.fits) {H : Heap} {n : Nat} (hG : GOK 0 2 H n) : Ret prog 17 [Zu fs, Zh c] H n (.tup [bys (if ZA (qcE fs c.q) fs c = 0 then cmdB c else []), .int .i64 (ZA (qcE fs c.q) fs c)]) H n :=
 U9 fs (by omega) c hc (qcE fs c.q) hG (hq_all fs hfs c hc)
theorem q_Decode (fs : List Fml) (hfs : fs.length ≤ 1048576) (b : List UInt8) (hb : b.length ≤ 1048576) {H : Heap} {n : Nat} (hG : GOK 0 2 H n) : Ret prog 26 [Zu fs, bys b] H n (.tup [Zh (decC (qcE fs) fs b).1, .int .i64 (decC (qcE fs) fs b).2]) H n :=
 Ws fs (by omega) b (by omega) (qcE fs) hG fun c hc hk => hq_all fs hfs c (Xf hb hc).1 hk
theorem cmdT_back {fs : List Fml} {a : CmdE} (hd : ∀ o ∈ a.ops, o.fine) (h : ZA (qcE fs (cmdT a).q) fs (cmdT a) = 0) : WR (qcE fs (cmdT a).q) fs (cmdT a) where
 ok := h
 fits := J4 a
 delta := fun o ho => by
   obtain ⟨x, hx, rfl⟩ := List.mem_map.1 ho
   exact hd x (List.mem_of_mem_take hx)
 nums := fun _ => qcE_nums
theorem callQ_mkB {P : Program} {f : FuncId} {fn : Func} {first captured args args' : List AV} {H : Heap} {r : AV}
   (hf : P.funcs[f]? = some fn) (hb : fn.body.isSome = true) (hn : (fn.name == "runtime.NumGoroutine") = false) (ha : first ++ args ++ captured = args') (h : ∀ n, Ret P f args' H n r H n) : CallQ P (.fn (.func f) first captured) args H r :=
 fun n => Zg hf hb hn ha (h n) ⟨rfl, rfl, rfl⟩
set_option maxRecDepth 100000 in
set_option maxHeartbeats 3200000 in
theorem JC (fs : List Fml) (hfs : fs.length ≤ 1048576) (a b : CmdE) (hda : ∀ o ∈ a.ops, o.fine) (hdb : ∀ o ∈ b.ops, o.fine) (any : List UInt8) (hany : any.length ≤ 1048576) {H : Heap} {n : Nat} (hG : GOK 0 2 H n) :
   Ret prog 6 [Zu fs, Zh a, Zh b, bys any] H n (.bool true) H n := by
 have hszs : (Zu fs).sz = 1 := rfl
 have hags : (Zu fs).isAgg = true := rfl
 have hmos : (Zu fs).memOK = true := rfl
 have hca : ∀ c, (Zh c).isAgg = true := fun _ => rfl
 have hcm : ∀ c, (Zh c).memOK = true := fun _ => rfl
 have hst : ∀ g c, strip g (Zh c) = Zh c := fun g _ => by cases g <;> rfl
 have hss : ∀ g, strip g (Zu fs) = Zu fs := fun g => by cases g <;> rfl
 have r1 := hszs
 have r2 := hszs
 have r3 := hszs
 have hG0 := hG
 have bkX := fun h => cmdT_back (fs := fs) hda h
 have bkY := fun h => cmdT_back (fs := fs) hdb h
 have hXf := J4 a
 have hYf := J4 b
 obtain ⟨X, hX⟩ : ∃ X, X = cmdT a := ⟨_, rfl⟩
 obtain ⟨Y, hY⟩ : ∃ X, X = cmdT b := ⟨_, rfl⟩
 have cX : ∀ (H : Heap) n, Ret prog 14 [Zh a] H n (Zh X) H n := fun H n => by rw [hX]; exact UE a H n
 have cY : ∀ (H : Heap) n, Ret prog 14 [Zh b] H n (Zh Y) H n := fun H n => by rw [hY]; exact UE b H n
 rw [← hX] at bkX hXf
 rw [← hY] at bkY hYf
 obtain ⟨ex, hex⟩ : ∃ e, e = ZA (qcE fs X.q) fs X := ⟨_, rfl⟩
 obtain ⟨ey, hey⟩ : ∃ e, e = ZA (qcE fs Y.q) fs Y := ⟨_, rfl⟩
 obtain ⟨P, hP⟩ : ∃ P, P = (if ex = 0 then cmdB X else []) := ⟨_, rfl⟩
 obtain ⟨Q, hQ⟩ : ∃ P, P = (if ey = 0 then cmdB Y else []) := ⟨_, rfl⟩
 have cE1 : ∀ (H : Heap) n, GOK 0 2 H n → Ret prog 17 [Zu fs, Zh X] H n (.tup [bys P, .int .i64 ex]) H n := fun H n hG => by rw [hP, hex]; exact q_Encode fs hfs X hXf hG
 have cE2 : ∀ (H : Heap) n, GOK 0 2 H n → Ret prog 17 [Zu fs, Zh Y] H n (.tup [bys Q, .int .i64 ey]) H n := fun H n hG => by rw [hQ, hey]; exact q_Encode fs hfs Y hYf hG
 have cC1 : ∀ (H : Heap) n, GOK 0 2 H n → Ret prog 15 [Zu fs, Zh X] H n (.int .i64 ex) H n := fun H n hG => by rw [hex]; exact Xh fs (by omega) X hXf _ (hq_all fs hfs X hXf) H n hG
 rw [← hex] at bkX
 rw [← hey] at bkY
 have hPl : P.length ≤ 98304 := by
   rw [hP]; split
   ·rename_i h0; exact (Uu (bkX h0).ok).2.2.2.2.2.2.2.2.2.2.2
   ·simp
 have hPQ : ex = 0 → ey = 0 → decide (P = Q) = decide (X = Y) := fun h1 h2 => by
   rw [hP, hQ, if_pos h1, if_pos h2]
   exact decide_eq_decide.2 (cmdB_inj (bkX h1) (bkY h2))
 have cD1 : ex = 0 → ∀ (H : Heap) n, GOK 0 2 H n → Ret prog 26 [Zu fs, bys P] H n (.tup [Zh X, .int .i64 0]) H n := fun h0 H n hG => by
   have h := q_Decode fs hfs P (by omega) hG
   rw [hP, if_pos h0] at h ⊢
   rw [decC_back (bkX h0)] at h
   exact h
 obtain ⟨D, hD⟩ : ∃ D, D = decC (qcE fs) fs any := ⟨_, rfl⟩
 have cD2 : ∀ (H : Heap) n, GOK 0 2 H n → Ret prog 26 [Zu fs, bys any] H n (.tup [Zh D.1, .int .i64 D.2]) H n := fun H n hG => by rw [hD]; exact q_Decode fs hfs any hany hG
 have cE3 : D.2 = 0 → ∀ (H : Heap) n, GOK 0 2 H n → Ret prog 17 [Zu fs, Zh D.1] H n (.tup [bys any, .int .i64 0]) H n := fun h0 H n hG => by
   rw [hD] at h0 ⊢
   obtain ⟨g1, g2⟩ := decC_zero (fun q => qcE_nums) h0
   have h := q_Encode fs hfs _ g1.fits hG
   rw [g1.ok, if_pos rfl, g2] at h
   exact h
 clear hD hP hQ hex hey hX hY bkX bkY
 have p01 : (n = n + 1) = False := by simp
 have p02 : (n = n + 2) = False := by simp
 have p03 : (n = n + 3) = False := by simp
 have p04 : (n = n + 4) = False := by simp
 have p05 : (n = n + 5) = False := by simp
 have p06 : (n = n + 6) = False := by simp
 have p10 : (n + 1 = n) = False := by simp
 have p12 : (n + 1 = n + 2) = False := by simp
 have p13 : (n + 1 = n + 3) = False := by simp
 have p14 : (n + 1 = n + 4) = False := by simp
 have p15 : (n + 1 = n + 5) = False := by simp
 have p16 : (n + 1 = n + 6) = False := by simp
 have p20 : (n + 2 = n) = False := by simp
 have p21 : (n + 2 = n + 1) = False := by simp
 have p23 : (n + 2 = n + 3) = False := by simp
 have p24 : (n + 2 = n + 4) = False := by simp
 have p25 : (n + 2 = n + 5) = False := by simp
 have p26 : (n + 2 = n + 6) = False := by simp
 have p30 : (n + 3 = n) = False := by simp
 have p31 : (n + 3 = n + 1) = False := by simp
 have p32 : (n + 3 = n + 2) = False := by simp
 have p34 : (n + 3 = n + 4) = False := by simp
 have p35 : (n + 3 = n + 5) = False := by simp
 have p36 : (n + 3 = n + 6) = False := by simp
 have p40 : (n + 4 = n) = False := by simp
 have p41 : (n + 4 = n + 1) = False := by simp
 have p42 : (n + 4 = n + 2) = False := by simp
 have p43 : (n + 4 = n + 3) = False := by simp
 have p45 : (n + 4 = n + 5) = False := by simp
 have p46 : (n + 4 = n + 6) = False := by simp
 have p50 : (n + 5 = n) = False := by simp
 have p51 : (n + 5 = n + 1) = False := by simp
 have p52 : (n + 5 = n + 2) = False := by simp
 have p53 : (n + 5 = n + 3) = False := by simp
 have p54 : (n + 5 = n + 4) = False := by simp
 have p56 : (n + 5 = n + 6) = False := by simp
 have p60 : (n + 6 = n) = False := by simp
 have p61 : (n + 6 = n + 1) = False := by simp
 have p62 : (n + 6 = n + 2) = False := by simp
 have p63 : (n + 6 = n + 3) = False := by simp
 have p64 : (n + 6 = n + 4) = False := by simp
 have p65 : (n + 6 = n + 5) = False := by simp
 refine Ret.fin ?_
 refine Zc func6 rfl ntmps6 (congrArg Array.toList results6) (by simp) ?_
 simp only [go_sem]
 refine Za zs [3, 4, 5, 6] fun K hK => ?_
 try simp only [go_sem, seval, hcm, ZZ]
 apply hK; clear hK K
 refine Zb fun K1 hK1 => ?_
 refine Za zs [3, 4, 5, 6, 22] fun K hK => ?_
 try simp only [go_sem, seval]
 refine Zg func12 rfl rfl rfl ((c_law14_told (hG.on (fun k hk => by (try simp only [Heap.put_get]); (repeat rw [if_neg (by omega)])) (by omega)))) ?_
 try simp only [go_sem, seval]
 apply hK; clear hK K
 refine Zf ?_ ?_ <;> intro hb
 ·skip
  exact absurd hb (by decide) --dead
 refine Zd ?_
 try simp only [go_sem, seval]
 apply hK1
 clear hK1 K1
 refine awp_lay 1 ?_
 refine awp_lay 1 ?_
 refine VS rfl zs [3, 4, 9, 10] [.q, .c, .q, .c, .a (n + 3) [0, 1, 2, 3], .a (n + 4) [0, 1, 2, 3], .w [], .w []] [0, 1, 2, 3, 4, 5, 6, 7] [0, 1, 2, 3, 4, 5, 6, 7] (by kernel_rfl) (fun _ _ _ _ _ h => h) fun K hK => ?_
 try simp only [go_sem, seval, hca, hst, ZZ, p12, p13, p14, p23, p24, p34, p43]
 refine ZL func14 rfl rfl rfl (fun _ n => (cX _ _)) ?_
 try simp only [go_sem, seval, hcm, ZZ]
 refine ZL func14 rfl rfl rfl (fun _ n => (cY _ _)) ?_
 try simp only [go_sem, seval, hcm, ZZ]
 repeat (first | refine peel ?_ | refine ⟨by exact fun H2 hag => by have g1 := hag.at (n + 1) (by simp [Heap.put]); have g2 := hag.at (n + 2) (by simp [Heap.put]); simp [Heap.put] at g1 g2; simp only [go_sem, seval, p01, p02, p03, p04, p05, p06, p10, p12, p13, p14, p15, p16, p20, p21, p23, p24, p25, p26, p30, p31, p32, p34, p35, p36, p40, p41, p42, p43, p45, p46, p50, p51, p52, p53, p54, p56, p60, p61, p62, p63, p64, p65, hst, hca, hcm, ZZ, g1, g2]; (try simp only [forall_const, true_and]); exact ⟨fun d hd => by cases hd; exact callQ_mkB func14 rfl rfl rfl (fun n => cX _ n), fun d hd => by cases hd; exact callQ_mkB func14 rfl rfl rfl (fun n => cY _ n)⟩, ?_⟩)
 apply hK; clear hK K
 refine Yh (fun H' n' => H' n = some (.arr 0 1 [Zu fs]) ∧ H' (n + 3) = some (.arr 1 17 [Zh X]) ∧ H' (n + 4) = some (.arr 1 17 [Zh Y]) ∧ (∀ k, k < n → H' k = H k) ∧ n' = n + 5) ⟨by (try simp only [Heap.put_get]); (repeat rw [if_neg (by omega)]); first | rfl | exact if_pos rfl, by simp [Heap.put], by simp [Heap.put], fun k hk => by (try simp only [Heap.put_get]); (repeat rw [if_neg (by omega)]), by omega⟩ fun H1 n1 ⟨r1, r2, r3, hl1, hn1⟩ => ?_
 subst hn1
 have hG := hG0.on hl1 (by omega : n ≤ n + 5)
 refine Za zs [3, 4, 9, 10, 11, 12] fun K hK => ?_
 try simp only [go_sem, seval, hca, ZZ, r1, r2]
 refine Zg func17 rfl rfl rfl ((cE1 _ _ hG)) ?_
 try simp only [go_sem, seval]
 apply hK; clear hK K
 refine Za zs [3, 4, 9, 10, 11, 12, 13, 14] fun K hK => ?_
 try simp only [go_sem, seval, hca, ZZ, r1, r3]
 refine Zg func17 rfl rfl rfl ((cE2 _ _ hG)) ?_
 try simp only [go_sem, seval]
 apply hK; clear hK K
 refine Zb fun K2 hK2 => ?_
 refine Za zs [3, 4, 9, 10, 11, 12, 13, 14, 45] fun K hK => ?_
 try simp only [go_sem, seval, hca, ZZ, r1, r2]
 refine Zg func15 rfl rfl rfl ((cC1 _ _ hG)) ?_
 try simp only [go_sem, seval]
 apply hK; clear hK K
 refine Zf ?_ ?_ <;> intro hb
 ·skip
  exact absurd hb (by simp) --dead
 refine Zd ?_
 try simp only [go_sem, seval]
 apply hK2
 clear hK2 K2
 refine Zb fun K3 hK3 => ?_
 refine Za zs [3, 4, 9, 10, 11, 12, 13, 14, 47] fun K hK => ?_
 try simp only [go_sem, seval]
 apply hK; clear hK K
 refine Zf ?_ ?_ <;> intro hb
 ·skip
  have h0 : ex = 0 := by simpa using hb
  refine Za zs [3, 4, 9, 10, 11, 12, 13, 14, 15, 16] fun K hK => ?_
  try simp only [go_sem, seval, r1]
  refine Zg func26 rfl rfl rfl ((cD1 h0 _ _ hG)) ?_
  try simp only [go_sem, seval, hcm, ZZ]
  apply hK; clear hK K
  refine Za zs [3, 4, 9, 10, 11, 12, 13, 14, 61] fun K hK => ?_
  try simp only [go_sem, seval, hca, ZZ, r2, p35]
  refine Zv func28 rfl rfl rfl (fun _ => (Vm X X hXf _ _)) ?_
  try simp only [go_sem, seval]
  repeat refine peel ?_
  apply hK; clear hK K
  refine Zf ?_ ?_ <;> intro hb
  ·skip
   exact absurd hb (by simp) --dead
  refine Zd ?_
  try simp only [go_sem, seval]
  apply hK3
  clear hK3 K3
  refine Zb fun K4 hK4 => ?_
  refine YF rfl zs [3, 4, 76] [.m, .q, .m, .m, .q, .q, .m, .m, .m, .c, .q, .q, .c, .q, .q] (by kernel_rfl) (fun _ _ _ _ _ h => h) fun K hK => ?_
  try simp only [go_sem, seval, hca, ZZ, r2, r3, p35, p45]
  repeat refine peel ?_
  refine ZL func19 rfl rfl rfl (fun _ n => (Wt P Q (by omega) _ _)) ?_
  refine ZL func28 rfl rfl rfl (fun _ n => (Vm X Y hXf _ _)) ?_
  try simp only [go_sem, seval]
  repeat refine peel ?_
  apply hK; clear hK K
  refine Zf ?_ ?_ <;> intro hb
  ·skip
   exact absurd hb (by by_cases e1 : ex = 0 <;> by_cases e2 : ey = 0 <;> first | (have h9 := hPQ e1 e2; simp [e1, e2, h9]) | simp [e1, e2]) --dead
  refine Zd ?_
  try simp only [go_sem, seval]
  apply hK4
  clear hK4 K4
  refine Za zs [3, 4, 17, 18] fun K hK => ?_
  try simp only [go_sem, seval, r1, p05]
  refine Zg func26 rfl rfl rfl ((cD2 _ _ (hG0.on (fun k hk => by (try simp only [Heap.put_get]); (repeat rw [if_neg (by omega)]); exact hl1 k hk) (by omega)))) ?_
  try simp only [go_sem, seval, hcm, ZZ]
  apply hK; clear hK K
  refine Zb fun K5 hK5 => ?_
  refine Za zs [3, 4, 17, 84] fun K hK => ?_
  try simp only [go_sem, seval]
  apply hK; clear hK K
  refine Zf ?_ ?_ <;> intro hb
  ·skip
   refine Za zs [8] fun K hK => ?_
   try simp only [go_sem, seval]
   apply hK; clear hK K
   refine Ze ?_
   try simp only [go_sem, seval]
   exact ⟨_, rfl, fun k hk => by (try simp only [Heap.put_get]); (repeat rw [if_neg (by omega)]); exact hl1 k hk, XI (by simp)⟩
  have hD0 : D.2 = 0 := by simpa using hb
  refine Zd ?_
  try simp only [go_sem, seval]
  apply hK5
  clear hK5 K5
  refine Za zs [3, 19, 20] fun K hK => ?_
  try simp only [go_sem, seval, hca, ZZ, r1, p05, p06]
  refine Zg func17 rfl rfl rfl ((cE3 hD0 _ _ (hG0.on (fun k hk => by (try simp only [Heap.put_get]); (repeat rw [if_neg (by omega)]); exact hl1 k hk) (by omega)))) ?_
  try simp only [go_sem, seval]
  apply hK; clear hK K
  refine Za zs [8] fun K hK => ?_
  try simp only [go_sem, seval]
  refine Zv func19 rfl rfl rfl (fun _ => (Wt any any (by omega) _ _)) ?_
  try simp only [go_sem, seval]
  repeat refine peel ?_
  apply hK; clear hK K
  refine Ze ?_
  try simp only [go_sem, seval]
  exact ⟨_, rfl, fun k hk => by (try simp only [Heap.put_get]); (repeat rw [if_neg (by omega)]); exact hl1 k hk, XI (by simp)⟩
 refine Zd ?_
 try simp only [go_sem, seval]
 apply hK3
 clear hK3 K3
 refine Zb fun K6 hK6 => ?_
 refine YF rfl zs [3, 4, 76] [.m, .q, .m, .m, .q, .q, .m, .m, .m, .c, .q, .q, .c, .q, .q] (by kernel_rfl) (fun _ _ _ _ _ h => h) fun K hK => ?_
 try simp only [go_sem, seval, hca, ZZ, r2, r3]
 repeat refine peel ?_
 refine ZL func19 rfl rfl rfl (fun _ n => (Wt P Q (by omega) _ _)) ?_
 refine ZL func28 rfl rfl rfl (fun _ n => (Vm X Y hXf _ _)) ?_
 try simp only [go_sem, seval]
 repeat refine peel ?_
 apply hK; clear hK K
 refine Zf ?_ ?_ <;> intro hb
 ·skip
  exact absurd hb (by by_cases e1 : ex = 0 <;> by_cases e2 : ey = 0 <;> first | (have h9 := hPQ e1 e2; simp [e1, e2, h9]) | simp [e1, e2]) --dead
 refine Zd ?_
 try simp only [go_sem, seval]
 apply hK6
 clear hK6 K6
 refine Za zs [3, 4, 17, 18] fun K hK => ?_
 try simp only [go_sem, seval, r1]
 refine Zg func26 rfl rfl rfl ((cD2 _ _ (hG0.on (fun k hk => by (try simp only [Heap.put_get]); (repeat rw [if_neg (by omega)]); exact hl1 k hk) (by omega)))) ?_
 try simp only [go_sem, seval, hcm, ZZ]
 apply hK; clear hK K
 refine Zb fun K7 hK7 => ?_
 refine Za zs [3, 4, 17, 84] fun K hK => ?_
 try simp only [go_sem, seval]
 apply hK; clear hK K
 refine Zf ?_ ?_ <;> intro hb
 ·skip
  refine Za zs [8] fun K hK => ?_
  try simp only [go_sem, seval]
  apply hK; clear hK K
  refine Ze ?_
  try simp only [go_sem, seval]
  exact ⟨_, rfl, fun k hk => by (try simp only [Heap.put_get]); (repeat rw [if_neg (by omega)]); exact hl1 k hk, XI (by simp)⟩
 have hD0 : D.2 = 0 := by simpa using hb
 refine Zd ?_
 try simp only [go_sem, seval]
 apply hK7
 clear hK7 K7
 refine Za zs [3, 19, 20] fun K hK => ?_
 try simp only [go_sem, seval, hca, ZZ, r1, p05]
 refine Zg func17 rfl rfl rfl ((cE3 hD0 _ _ (hG0.on (fun k hk => by (try simp only [Heap.put_get]); (repeat rw [if_neg (by omega)]); exact hl1 k hk) (by omega)))) ?_
 try simp only [go_sem, seval]
 apply hK; clear hK K
 refine Za zs [8] fun K hK => ?_
 try simp only [go_sem, seval]
 refine Zv func19 rfl rfl rfl (fun _ => (Wt any any (by omega) _ _)) ?_
 try simp only [go_sem, seval]
 repeat refine peel ?_
 apply hK; clear hK K
 refine Ze ?_
 try simp only [go_sem, seval]
 exact ⟨_, rfl, fun k hk => by (try simp only [Heap.put_get]); (repeat rw [if_neg (by omega)]); exact hl1 k hk, XI (by simp)⟩
end Go.Proofs.YtifnhpmeoogedaaGreatDoor