/- Own layer: walks through the document's frames. Of the program; no condition. -/
import Derived.Test.YtkmkbndcekklmaaGreatDoorPJ
import Derived.Test.YtkmkbndcekklmaaGreatDoorPF
import Derived.Test.YtkmkbndcekklmaaGreatDoorPE
import Derived.Test.YtkmkbndcekklmaaGreatDoorPH
set_option linter.unusedSimpArgs false
set_option linter.unusedVariables false
set_option maxRecDepth 10000
namespace Go.Proofs.YtkmkbndcekklmaaGreatDoor
open Go Go.Sx Go.Rt Go.Proofs Tryz
theorem eight_head (v : Nat) : (UQ v 8).drop 4 = Ym v := by
 show [ZZ ((v / 256 ^ 3 : Nat) : Int), ZZ ((v / 256 ^ 2 : Nat) : Int), ZZ ((v / 256 ^ 1 : Nat) : Int), ZZ ((v / 256 ^ 0 : Nat) : Int)] = _
 unfold Ym
 rw [show ((v / 256 ^ 3 : Nat) : Int) = (v : Int) / 16777216 by omega, show ((v / 256 ^ 2 : Nat) : Int) = (v : Int) / 65536 by omega, show ((v / 256 ^ 1 : Nat) : Int) = (v : Int) / 256 by omega, show ((v / 256 ^ 0 : Nat) : Int) = (v : Int) by omega]
theorem NHk0.eqs {P Q : Prop} (g : Imp P Q := by (try simp only [go_sem, seval, List.length_map, ZX, hu, e1, e4, Yr, Option.getD_some, Option.getD_none]); exact NH) : Imp P Q := g
open NHk0 NY in
theorem c_ref1_Frame (b : List UInt8) (hb : b.length ≤ 1048576) (H : Heap) (n : Nat) : Ret prog 129 [bys b] H n (.tup [bys (Z5 b), .int .i64 0]) H n := by
 have hu : u64 (b.length : Int) = b.length := XV _ om
 have e1 : List.drop 4 (List.take 8 ((UQ b.length 8).map Zd)) = (Ym b.length).map Zd := by rw [List.take_of_length_le (by simp [Yr]), ← List.map_drop, eight_head]
 obtain ⟨hd, hhd⟩ : ∃ x, x = Ym b.length := ⟨_, rfl⟩
 have hdl : hd.length = 4 := by rw [hhd]; rfl
 have hfb : Z5 b = hd ++ lowB (sumF [hd]) ++ b ++ lowB (sumF [b]) := by rw [hhd]; rfl
 rw [← hhd] at e1
 have e2 : (hd.take 4).drop 0 = hd := by rw [List.drop_zero, List.take_of_length_le om]
 have hll : ∀ v, (lowB v).length = 4 := fun v => rfl
 have e4 : List.take 4 (hd.map Zd) = hd.map Zd := List.take_of_length_le oz
 have e8 : List.take 8 ((hd ++ lowB (sumF [hd])).map Zd) = (hd ++ lowB (sumF [hd])).map Zd := List.take_of_length_le (by simp [hll]; omega)
 have hzz : (Option.map (fun x => x) (none : Option Nat)) = none := rfl
 refine Ret.fin ?_
 refine fw func129 ntmps129 results129 ?_
 refine kcu ?_
 refine Za fun K1 hK1 => ?_
 refine rg zs [0, 8] ?_
 refine Zb ?_ ?_ <;> intro hb
 ·exact absurd (of_decide_eq_true hb) om
 refine kay ?_
 refine rk zs [0, 4] fun K V => ?_
 refine ck func146 ((c_ref1_eight b.length om _ _)) ?_
 refine kas ?_
 refine rk zs [0, 5] fun K V => ?_
 refine ck func58 ((e2 ▸ Ql hd om 0 4 om om _ _)) ?_
 refine ck func133 ((WI hd om _ _)) ?_
 refine kas ?_
 refine ZV (fun H' n' => H' n = some (.arr 2 1 ((hd ++ lowB (sumF [hd])).map Zd)) ∧ (∀ k, k < n → H' k = H k) ∧ n' = n + 1) ⟨by simp only [NG, List.map_append]; rw [List.take_of_length_le osi], fun k hk => NE _ _ om, rfl⟩ fun H1 n1 ⟨r1, hl1, hn1⟩ => ?_
 subst hn1
 refine kbS ?_
 have hl8 : (hd ++ lowB (sumF [hd])).length = 8 := by rw [List.length_append, hdl]; rfl
 have e9 : List.take (hd ++ lowB (sumF [hd])).length ((hd ++ lowB (sumF [hd])).map Zd) = (hd ++ lowB (sumF [hd])).map Zd := List.take_of_length_le osi
 refine Zf zs [0, 5] fun K V => ?_
 try simp only [go_sem, seval, List.length_map, ZX, hu, e1, e4, Yr, Option.getD_some, Option.getD_none, r1, e9]
 repeat (first | (refine And.intro ?_ ?_; · first | exact ⟨osi, .inr trivial, om, om⟩) | refine peel ?_)
 refine kas ?_
 refine ZV (fun H' n' => H' n = some (.arr 3 1 ((hd ++ lowB (sumF [hd]) ++ b).map Zd)) ∧ (∀ k, k < n → H' k = H k) ∧ n' = n + 1) ⟨by simp only [NG, List.map_append], fun k hk => (NE _ _ om).trans (hl1 k hk), rfl⟩ fun H2 n2 ⟨r2, hl2, hn2⟩ => ?_
 subst hn2
 refine kbS ?_
 have e10 : List.take (hd ++ lowB (sumF [hd]) ++ b).length ((hd ++ lowB (sumF [hd]) ++ b).map Zd) = (hd ++ lowB (sumF [hd]) ++ b).map Zd := List.take_of_length_le osi
 have hl9 : (hd ++ lowB (sumF [hd]) ++ b).length = 8 + b.length := by rw [List.length_append, hl8]
 refine Zf zs [2, 3] fun K V => ?_
 try simp only [go_sem, seval, List.length_map, ZX, hu, e1, e4, Yr, Option.getD_some, Option.getD_none, r2, e10]
 repeat refine peel ?_
 refine Zo func133 rfl rfl rfl ((WI b om _ _)) ?_
 try simp only [go_sem, seval, List.length_map, ZX, hu, e1, e4, Yr, Option.getD_some, Option.getD_none, r2, e10]
 repeat (first | (refine And.intro ?_ ?_; · first | exact ⟨osi, .inr trivial, by rw [hl9, hll]; omega, by rw [hl9, hll]; omega⟩) | refine peel ?_)
 refine kas ?_
 refine ar ?_
 refine ⟨_, rfl, fun k hk => by rw [if_neg om]; exact hl2 k hk, ?_⟩
 rw [hfb]
 exact .tup (.cons (.osl (NG _ _ _) (Nat.le_refl _) oz (by rw [List.drop_zero, List.take_of_length_le oz, ← List.map_append]; exact X4 _ (ZY _ _))) (.cons (.kl trivial) .nil))
theorem or_add {x y k : Nat} (h : y < 2 ^ k) : x * 2 ^ k ||| y = x * 2 ^ k + y := by
 rw [← Nat.shiftLeft_eq, ← Nat.shiftLeft_add_eq_or_of_lt h]
theorem hd4_num {b : List UInt8} (h : 4 ≤ b.length) : hd4 b = numB 0 ((b.drop 0).take 4) := by
 obtain ⟨x, y, z, w, l, rfl⟩ : ∃ x y z w l, b = x :: y :: z :: w :: l := by
   match b, h with
   | x :: y :: z :: w :: l, _ => exact ⟨x, y, z, w, l, rfl⟩
 have hx := x.toNat_lt; have hy := y.toNat_lt; have hz := z.toNat_lt; have hw := w.toNat_lt
 show ((x.toNat * 2 ^ 24 ||| y.toNat * 2 ^ 16) ||| z.toNat * 2 ^ 8) ||| w.toNat = 256 * (256 * (256 * (256 * 0 + x.toNat) + y.toNat) + z.toNat) + w.toNat
 rw [Nat.or_assoc, or_add (x := z.toNat) (y := w.toNat) (k := 8) om, Nat.or_assoc, or_add (x := y.toNat) (y := z.toNat * 2 ^ 8 + w.toNat) (k := 16) om, or_add (x := x.toNat) (k := 24) om]
 omega
theorem NHk1.eqs {P Q : Prop} (g : Imp P Q := by (try simp only [go_sem, seval, List.length_map, k4, k8, k12, m4, m8, m0, m12]); exact NH) : Imp P Q := g
set_option maxHeartbeats 1600000 in
open NHk1 NY in
theorem KM (b : List UInt8) (hb9 : b.length ≤ 1099511627776) (H : Heap) (n : Nat) : Ret prog 97 [bys b, .int .i64 0] H n (.tup [bys (rfQ b).1, .int .i64 (rfQ b).2.1, .int .i64 (rfQ b).2.2]) H n := by
 obtain ⟨N, hNd⟩ : ∃ N, N = numB 0 ((b.drop 0).take 4) := ⟨_, rfl⟩
 have hrf : rfQ b = rfN b N := by
   unfold rfQ
   by_cases h : 4 ≤ b.length
   ·rw [hd4_num h, hNd]
   ·unfold rfN; rw [if_pos om, if_pos om]
 rw [hrf]
 clear hrf
 have hNl : N < 4294967296 := by
   have h1 := MJ ((b.drop 0).take 4) 0
   have h2 : 256 ^ ((b.drop 0).take 4).length ≤ 256 ^ 4 := Nat.pow_le_pow_right om (by rw [List.length_take]; omega)
   rw [hNd]; unfold numB; omega
 have k4 : IntKind.i64.wrap 4 = 4 := odc
 have k8 : IntKind.i64.wrap 8 = 8 := odc
 have k12 : IntKind.i64.wrap 12 = 12 := odc
 have m4 : (4 : Int).toNat = 4 := rfl
 have m8 : (8 : Int).toNat = 8 := rfl
 have m0 : (0 : Int).toNat = 0 := rfl
 have m12 : (12 : Int).toNat = 12 := rfl
 refine Ret.fin ?_
 refine fw func97 ntmps97 results97 ?_
 refine kb1 ?_
 refine Za fun K1 hK1 => ?_
 refine rc zs [0, 1, 11] func132 ((VJ b 0 _ _)) ?_
 refine Zb ?_ ?_ <;> intro hb
 ·exact kcQ
 refine kay ?_
 refine Za fun K2 hK2 => ?_
 refine rg zs [0, 1, 16] ?_
 refine Zb ?_ ?_ <;> intro hb
 ·have h8 : b.length < 8 := by have := of_decide_eq_true hb; rw [w64 om om] at this; omega
  have hw : rfN b N = ([], 0, 10) := by unfold rfN; rw [if_pos h8]
  exact kaf
 have h8 : 8 ≤ b.length := by have := of_decide_eq_false hb; rw [w64 om om] at this; omega
 have e2 : List.take 4 (b.map Zd) = (b.take 4).map Zd := by rw [List.map_take]
 have e3 : List.drop 4 (List.take 8 (b.map Zd)) = ((b.drop 4).take 4).map Zd := by rw [List.drop_take, ← List.map_drop, ← List.map_take]
 refine kaQ ?_
 refine Za fun K3 hK3 => ?_
 refine XJ rfl zs [0, 1, 30] [.m, .m, .m, .q, .q, .c, .m, .m, .q, .m, .q, .q, .c, .q] [0, 1, 2, 3, 4, 5, 6, 7, 8, 9, 10, 11, 12, 13] [0, 1, 2, 3, 4, 5, 6, 7, 8, 9, 10, 11, 12, 13] (by kernel_rfl) (fun _ _ _ _ _ h => h) fun K V => ?_
 refine kbt ?_
 repeat (first | (refine And.intro ?_ ?_; · first | exact ⟨om, fun m h => h.elim⟩) | refine peel ?_)
 refine ZL func133 rfl rfl rfl (fun _ n => (WI (b.take 4) (by rw [List.length_take]; omega) _ _)) ?_
 refine kbt ?_
 repeat (first | (refine And.intro ?_ ?_; · first | exact ⟨om, fun m h => h.elim⟩) | refine peel ?_)
 refine ZL func46 rfl rfl rfl (fun _ n => (WU (lowB (sumF [b.take 4])) ((b.drop 4).take 4) _ _)) ?_
 refine kbt ?_
 refine kad ?_
 refine Zb ?_ ?_ <;> intro hb
 ·have hs1 : (lowB (sumF [b.take 4]) == (b.drop 4).take 4) = false := osb
  have hw : rfN b N = ([], 0, 12) := by unfold rfN; rw [if_neg om, if_pos (by rw [BEq.comm]; exact hs1)]
  exact kaf
 have hs1 : (lowB (sumF [b.take 4]) == (b.drop 4).take 4) = true := osb
 have hs2 : ¬ ((b.drop 4).take 4 == lowB (sumF [b.take 4])) = false := by rw [BEq.comm, hs1]; simp
 have eN : IntKind.i64.wrap (N : Int) = (N : Int) := w64 om om
 refine kba ?_
 refine Zf zs [0, 1, 7] fun K V => ?_
 try simp only [go_sem, seval, List.length_map, k4, k8, k12, m4, m8, m0, m12, eN]
 repeat refine peel ?_
 refine Zo func134 rfl rfl rfl ((hNd ▸ c_ref1_number b hb9 0 4 om om _ _)) ?_
 try simp only [go_sem, seval, List.length_map, k4, k8, k12, m4, m8, m0, m12, eN]
 refine kad ?_
 refine Za fun K4 hK4 => ?_
 refine rg zs [0, 1, 7, 36] ?_
 refine Zb ?_ ?_ <;> intro hb
 ·have hw : rfN b N = ([], 0, 13) := by unfold rfN; rw [if_neg om, if_neg hs2, if_pos ott]
  exact kaf
 have hN2 : ¬ 1048576 < N := otf
 have j0 : IntKind.i64.wrap ((b.length : Int) - 0) = (b.length : Int) := by rw [w64 om om]; omega
 have j1 : IntKind.i64.wrap ((b.length : Int) - 8) = ((b.length - 8 : Nat) : Int) := by rw [w64 om om]; omega
 have j2 : IntKind.i64.wrap ((N : Int) + 4) = ((N + 4 : Nat) : Int) := by rw [w64 om om]; omega
 have j3 : IntKind.i64.wrap (8 + (N : Int)) = ((8 + N : Nat) : Int) := by rw [w64 om om]; omega
 have j4 : IntKind.i64.wrap (12 + (N : Int)) = ((8 + N + 4 : Nat) : Int) := by rw [w64 om om]; omega
 refine kb3 ?_
 refine Za fun K5 hK5 => ?_
 refine Zf zs [0, 1, 7, 44] fun K V => ?_
 try simp only [go_sem, seval, List.length_map, k4, k8, k12, m4, m8, m0, m12, j0, j1, j2]
 refine kad ?_
 refine Zb ?_ ?_ <;> intro hb
 ·have hw : rfN b N = ([], 0, 10) := by unfold rfN; rw [if_neg om, if_neg hs2, if_neg hN2, if_pos ott]
  exact kaf
 have hL : ¬ b.length - 8 < N + 4 := otf
 have e5 : (b.take (8 + N)).drop 8 = (b.drop 8).take N := by rw [List.drop_take]; congr 1; omega
 have e6 : List.drop (8 + N) (List.take (8 + N + 4) (b.map Zd)) = ((b.drop (8 + N)).take 4).map Zd := by rw [List.drop_take, ← List.map_drop, ← List.map_take]; congr 2; omega
 refine ak ?_
 apply hK5
 refine Zf zs [0, 1, 7, 8] fun K V => ?_
 try simp only [go_sem, seval, List.length_map, k4, k8, k12, m4, m8, m0, m12, j3]
 repeat refine peel ?_
 refine Zo func58 rfl rfl rfl ((e5 ▸ Qv b hb9 8 (8 + N) om om _ _)) ?_
 try simp only [go_sem, seval, List.length_map, k4, k8, k12, m4, m8, m0, m12, j3]
 refine kad ?_
 refine Za fun K6 hK6 => ?_
 refine XJ rfl zs [1, 7, 8, 66] [.m, .c, .m, .m, .q, .m, .q, .m, .q, .m, .q, .q, .c, .q] [0, 1, 2, 3, 4, 5, 6, 7, 8, 9, 10, 11, 12, 13] [0, 1, 2, 3, 4, 5, 6, 7, 8, 9, 10, 11, 12, 13] (by kernel_rfl) (fun _ _ _ _ _ h => h) fun K V => ?_
 refine kbJ ?_
 repeat refine peel ?_
 refine ZL func133 rfl rfl rfl (fun _ n => (WI ((b.drop 8).take N) (by rw [List.length_take]; omega) _ _)) ?_
 refine kbJ ?_
 repeat (first | (refine And.intro ?_ ?_; · first | exact ⟨om, om, om, fun m h => h.elim⟩) | refine peel ?_)
 refine ZL func46 rfl rfl rfl (fun _ n => (WU (lowB (sumF [(b.drop 8).take N])) ((b.drop (8 + N)).take 4) _ _)) ?_
 refine kbJ ?_
 refine kad ?_
 refine Zb ?_ ?_ <;> intro hb
 ·have hs3 : (lowB (sumF [(b.drop 8).take N]) == (b.drop (8 + N)).take 4) = false := osb
  have hw : rfN b N = ([], 0, 12) := by unfold rfN; rw [if_neg om, if_neg hs2, if_neg hN2, if_neg hL, if_pos (by rw [BEq.comm]; exact hs3)]
  exact kaf
 have hs3 : (lowB (sumF [(b.drop 8).take N]) == (b.drop (8 + N)).take 4) = true := osb
 have hw : rfN b N = ((b.drop 8).take N, ((8 + N + 4 : Nat) : Int), 0) := by unfold rfN; rw [if_neg om, if_neg hs2, if_neg hN2, if_neg hL, if_neg (by rw [BEq.comm, hs3]; simp)]
 refine ak ?_
 apply hK6
 refine Zf zs [4, 5, 6] fun K V => ?_
 try simp only [go_sem, seval, List.length_map, k4, k8, k12, m4, m8, m0, m12, j4]
 refine kad ?_
 refine ar ?_
 rw [hw]
 exact ⟨_, rfl, .kl ⟨Wy _ _, trivial, trivial, trivial⟩⟩
theorem NHl0.eqs {P Q : Prop} (g : Imp P Q := by (try simp only [go_sem, seval, hsz, hag, hmo, f1, f2, f3, f4, g1, r1, r2, Yi, ZX, List.length_map]); exact NH) : Imp P Q := g
theorem NHl0.sd {P : Prop} (g : P := by first | exact ⟨Nat.le_refl _, Nat.le_refl _, .inr trivial, om, om⟩ | exact ⟨rfl, by (simp [AV.sz, AV.memOK]; first | done | fail)⟩ | fail) : P := g
open NHl0 NZ in
theorem c_ref13_token (q : QryE) (hq : q.fine) (time : Int) (row : List UInt8) (hr : row.length ≤ 256) (H : Heap) (n : Nat) : Ret prog 91 [Ze q, .int .i64 time, bys row] H n (bys (tokB q time row)) H n := by
 have hsz : (Ze q).sz = 10 := ZU q
 have hag : (Ze q).isAgg = true := rfl
 have hmo : (Ze q).memOK = true := rfl
 have r1 := hsz
 have r2 := hsz
 have g1 := hsz
 have hy := Zj (v := row.length) om
 have hz : (Zi row).length = (Zg row.length).length + row.length := by simp [Zi]
 have hy2 := Zj (Z0 time)
 have hy3 := Zj (Z0 (sumF [Yw q]))
 have f1 : (n = n + 1) = False := osi
 have f2 : (n + 1 = n) = False := osi
 have f3 : (n + 1 = n + 2) = False := osi
 have f4 : (n = n + 2) = False := osi
 refine Ret.fin ?_
 refine fw func91 ntmps91 results91 ?_
 refine rg zs [1, 2, 3] ?_
 refine rc zs [2, 3, 7] func125 ((Xh (u64 time) (Z0 _) _ _)) ?_
 refine rk zs [3, 7] fun K V => ?_
 refine ck func126 ((X3 row om _ _)) ?_
 refine kas ?_
 refine ZV (fun H' n' => H' n = some (.arr 0 10 [Ze q]) ∧ H' (n + 1) = some (.arr ((Zg (u64 time)).length + 1) 1 ((Zg (u64 time) ++ Zi row).map Zd)) ∧ (∀ k, k < n → H' k = H k) ∧ n + 3 ≤ n') ⟨by (try simp only [NF]); simp, by rw [NG, List.map_append], fun k hk => oh, om⟩ fun H1 m ⟨r1, r2, hl1, hm⟩ => ?_
 refine kbS ?_
 have g1 : (n + 1 = m) = False := oz
 have hbl : (Zg (u64 time) ++ Zi row).length ≤ 300 := by rw [List.length_append]; omega
 have e9 : List.take (Zg (u64 time) ++ Zi row).length (List.map Zd (Zg (u64 time) ++ Zi row)) = List.map Zd (Zg (u64 time) ++ Zi row) := Yi _
 refine rk zs [7, 8] fun K V => ?_
 refine ck func128 ((c_ref13_form q hq.frm hq.to hq.fams hq.pre hq.whr _ _)) ?_
 refine ck func127 ((Nk [Yw q] osi (fun x hx => by rw [List.mem_singleton.1 hx]; have := formB_len hq; omega) _ _)) ?_
 refine kas ?_
 refine Zf zs [7] fun K V => ?_
 try simp only [go_sem, seval, hsz, hag, hmo, f1, f2, f3, f4, g1, r1, r2, Yi, ZX, List.length_map, e9]
 repeat refine peel ?_
 refine Zo func125 rfl rfl rfl ((Xh (u64 (sumF [Yw q])) (Z0 _) _ _)) ?_
 try simp only [go_sem, seval, hsz, hag, hmo, f1, f2, f3, f4, g1, r1, r2, Yi, ZX, List.length_map, e9]
 repeat (first | (refine And.intro ?_ ?_; · first | exact ⟨Nat.le_refl _, Nat.le_refl _, .inr trivial, om, om⟩) | refine peel ?_)
 refine kas ?_
 refine rk zs [9] fun K V => ?_
 rw [← List.length_append, ← List.map_append]
 refine Zo func129 rfl rfl rfl (Ret.frzK (args := [.osl (n + 1) ((Zg (u64 time)).length + 2) 0 (Zg (u64 time) ++ Zi row ++ Zg (u64 (sumF [Yw q]))).length]) (args' := [bys (Zg (u64 time) ++ Zi row ++ Zg (u64 (sumF [Yw q])))]) (n + 1) (NG _ _ _) ⟨fz_bys _, trivial⟩ (c_ref1_Frame (Zg (u64 time) ++ Zi row ++ Zg (u64 (sumF [Yw q]))) (by rw [List.length_append]; omega) _ _)) ?_
 refine nz ?_
 refine kas ?_
 refine rg zs [6] ?_
 refine ar ?_
 exact ⟨_, rfl, fun k hk => ohx (hl1 k hk), .kl (ZY (tokB q time row) _)⟩
theorem head_num {n : Nat} (h : n < 4294967296) : numB 0 (Ym n) = n := by
 have hb : ∀ x : Nat, (ZZ (x : Int)).toNat = x % 256 := fun x => by rw [KR]; simp
 show 256 * (256 * (256 * (256 * 0 + (ZZ ((n : Int) / 16777216)).toNat) + (ZZ ((n : Int) / 65536)).toNat) + (ZZ ((n : Int) / 256)).toNat) + (ZZ (n : Int)).toNat = n
 rw [show (n : Int) / 16777216 = ((n / 16777216 : Nat) : Int) by omega, show (n : Int) / 65536 = ((n / 65536 : Nat) : Int) by omega, show (n : Int) / 256 = ((n / 256 : Nat) : Int) by omega, hb, hb, hb, hb]
 omega
theorem frame_end {b : List UInt8} (hb : b.length ≤ 1048576) (h : (rfQ (Z5 b)).2.2 = 0) : (rfQ (Z5 b)).2.1 = ((Z5 b).length : Int) := by
 have hl : (Z5 b).length = 12 + b.length := by unfold Z5; simp only [List.length_append]; show 4 + 4 + b.length + 4 = _; omega
 have hN : hd4 (Z5 b) = b.length := by
   rw [hd4_num om, List.drop_zero]
   have : (Z5 b).take 4 = Ym b.length := by unfold Z5; rw [List.append_assoc, List.append_assoc]; rfl
   rw [this, head_num om]
 unfold rfQ at h ⊢
 rw [hN] at h ⊢
 unfold rfN at h ⊢
 split at h
 ·exact absurd h odc
 split at h
 ·exact absurd h odc
 split at h
 ·exact absurd h odc
 split at h
 ·exact absurd h odc
 split at h
 ·exact absurd h odc
 rename_i h1 h2 h3 h4 h5
 rw [if_neg h1, if_neg h2, if_neg h3, if_neg h4, if_neg h5, hl]
 simp only; omega
def markAV (q : QryE) : AV := .agg [.bool (decide (q.token.length ≠ 0 ∧ (ZR q).2.2 = 0)), .int .i64 (ZR q).1, bys (ZR q).2.1]
theorem NHl1.eqs {P Q : Prop} (g : Imp P Q := by (try simp only [go_sem, seval, hsz, hag, hmo, f1, f2, ruAV, rbAV, Ze, Zr, bys, List.length_map, ZX, hx]); exact NH) : Imp P Q := g
set_option maxHeartbeats 3200000 in
open NHl1 NY in
theorem Qw (q : QryE) (hq : q.fine) (ht : -9223372036854775808 ≤ q.time ∧ q.time < 9223372036854775808) (H : Heap) (n : Nat) : Ret prog 60 [Ze q] H n (.tup [markAV q, .int .i64 (ZR q).2.2]) H n := by
 have hsz : (Ze q).sz = 10 := ZU q
 have hag : (Ze q).isAgg = true := rfl
 have hmo : (Ze q).memOK = true := rfl
 have hTu : ∀ v : Nat, v ≤ 1099511627776 → (v ≠ u64 q.time ↔ (v : Int) ≠ q.time) := fun v hv => by
   unfold u64
   constructor
   ·intro h e; exact h (by rw [← e]; omega)
   ·intro h e; exact h om
 unfold markAV
 obtain ⟨z, hz⟩ : ∃ z, z = ZR q := ⟨_, rfl⟩
 rw [← hz]
 unfold ZR at hz
 have hfl := rfQ_len q.token
 have htl := hq.token
 have hend : ∀ u row, (rfQ q.token).2.2 = 0 → row.length ≤ 256 → (tokB q u row == q.token) = true → (rfQ q.token).2.1 = (q.token.length : Int) := fun u row h0 hr he => by
   have e : tokB q u row = q.token := by simpa using he
   have h1 := Zj (Z0 u)
   have h2 := Zj (v := row.length) om
   have h3 := Zj (Z0 (sumF [Yw q]))
   rw [← e] at h0 ⊢
   exact frame_end (by simp only [List.length_append, Zi]; omega) h0
 obtain ⟨fr, hfr⟩ : ∃ f, f = rfQ q.token := ⟨_, rfl⟩
 rw [← hfr] at hz hfl hend
 obtain ⟨hu1, hu2, hu3⟩ := ruB_lt fr.1 0
 obtain ⟨u, hu⟩ : ∃ u, u = ruB fr.1 0 := ⟨_, rfl⟩
 rw [← hu] at hz hu1 hu2 hu3
 have hbm := Ms fr.1 u.2.1 256
 obtain ⟨rb, hrb⟩ : ∃ b, b = rbB fr.1 u.2.1 256 := ⟨_, rfl⟩
 rw [← hrb] at hz hbm
 have hx := hsz
 have hxT : u.1 ≤ 1099511627776 → IntKind.i64.wrap (u.1 : Int) = (u.1 : Int) := fun h => w64 om om
 have f1 : (n = n + 1) = False := osi
 have f2 : (n + 1 = n) = False := osi
 refine Ret.fin ?_
 refine fw func60 ntmps60 results60 ?_
 refine rg zs [1, 2] ?_
 refine Za fun K1 hK1 => ?_
 refine rg zs [1, 2, 14] ?_
 refine Zb ?_ ?_ <;> intro hb
 ·have h0 : q.token.length = 0 := by have h9 := hb; simp at h9; simp [h9]
  rw [if_pos h0] at hz
  have hzz : z = (0, [], 0) := hz
  exact kaE
 have h0 : ¬ q.token.length = 0 := by have h9 := hb; simp at h9; simp [h9]
 rw [if_neg h0] at hz
 refine kay ?_
 refine rk zs [1, 2, 4, 5, 6] fun K V => ?_
 refine ck func97 ((hfr ▸ KM q.token om _ _)) ?_
 refine kas ?_
 refine Za fun K2 hK2 => ?_
 refine rg zs [1, 2, 4, 31] ?_
 refine Zb ?_ ?_ <;> intro hb
 ·have hc1 : fr.2.2 ≠ 0 ∨ fr.2.1 ≠ (q.token.length : Int) := by by_cases h : fr.2.2 = 0; (right; rw [h] at hb; simpa using hb); exact .inl h
  have hzz : z = (0, [], 132) := by
    rw [hz]
    split; rfl; split; rfl; split; rfl
    rename_i a1 a2 a3
    exfalso
    have a1 : fr.2.2 = 0 := by simpa using a1
    refine hc1.elim (fun h => h a1) (fun h => h (hend (u.1 : Int) rb.1 a1 (by simpa using hbm) ?_))
    cases e : (tokB q (u.1 : Int) rb.1 == q.token) with
    | true => rfl
    | false => exact absurd (.inr (.inr (.inr e))) a3
  exact kaE
 have hc1 : fr.2.2 = 0 := by by_cases h : fr.2.2 = 0; exact h; (rw [show (fr.2.2 != 0) = true by simpa using h] at hb; cases hb)
 rw [if_neg (by simp [hc1])] at hz
 refine kaQ ?_
 refine rk zs [1, 2, 4, 6, 7, 8] fun K V => ?_
 refine ck func98 ((hu ▸ U3 fr.1 0 om om _ _)) ?_
 refine kas ?_
 refine Za fun K3 hK3 => ?_
 refine rg zs [1, 2, 4, 7, 8, 60] ?_
 refine Zb ?_ ?_ <;> intro hb
 ·have hc : u.2.2 ≠ 0 ∨ u.1 < 1 ∨ 1099511627776 < u.1 ∨ (q.time ≠ 0 ∧ u.1 ≠ u64 q.time) := by
    by_cases c1 : u.2.2 = 0 <;> by_cases c2 : u.1 < 1 <;> by_cases c3 : 1099511627776 < u.1
    all_goals first | exact .inl c1 | exact .inr (.inl c2) | exact .inr (.inr (.inl c3)) | skip
    have := hxT om
    have c5 := hTu u.1 om
    simp [c1, this] at hb
    exact .inr (.inr (.inr ⟨om, c5.2 om⟩))
  have hzz : z = (0, [], 132) := by rw [hz, if_pos hc]
  refine rg zs [2, 3] ?_
  refine ar ?_
  rw [hzz]
  exact ⟨_, rfl, fun k hk => oh, .tup (.cons (.agg (.cons (XC (by simp [h0])) (.cons (.kl trivial) (.cons .nilsl .nil)))) (.cons (.kl trivial) .nil))⟩
 have hc : ¬ (u.2.2 ≠ 0 ∨ u.1 < 1 ∨ 1099511627776 < u.1 ∨ (q.time ≠ 0 ∧ u.1 ≠ u64 q.time)) := by
   rintro (c1 | c1 | c1 | ⟨c1, c2⟩)
   ·rw [show (u.2.2 != 0) = true by simpa using c1] at hb; simp at hb
   ·simp [show decide ((u.1 : Int) < 1) = true from decide_eq_true om] at hb
   ·exact kcO
   ·by_cases c3 : u.1 ≤ 1099511627776
    ·have c5 := (hTu u.1 c3).1 c2; simp [hxT c3, c1, c5] at hb
    ·exact kcO
 rw [if_neg hc] at hz
 have hx : IntKind.i64.wrap (u.1 : Int) = (u.1 : Int) := hxT om
 refine kba ?_
 refine rk zs [1, 2, 6, 7, 9] fun K V => ?_
 refine ck func99 ((hrb ▸ KN fr.1 u.2.1 256 om om om _ _)) ?_
 refine kas ?_
 refine Za fun K4 hK4 => ?_
 refine dx zs [2, 7, 9, 92] [.m, .q, .m, .m, .q, .q, .q, .m, .q, .m, .c, .q, .q, .m, .q, .m, .q, .m, .c, .q, .q, .c, .q, .q] [0, 1, 2, 3, 4, 5, 6, 7, 8, 9, 10, 11, 12, 13, 14, 15, 16, 17, 18, 19, 20, 21, 22, 23] [0, 1, 2, 3, 4, 5, 6, 7, 8, 9, 10, 11, 12, 13, 14, 15, 16, 17, 18, 19, 20, 21, 22, 23] fun K V => ?_
 refine cq func89 (fun _ n => (Nl q rb.1 _ _)) ?_
 refine cq func91 (fun _ n => (c_ref13_token q hq u.1 rb.1 hbm _ _)) ?_
 refine cq func46 (fun _ n => (WU (tokB q u.1 rb.1) q.token _ _)) ?_
 refine kas ?_
 refine Zb ?_ ?_ <;> intro hb
 ·have hc2 : rb.2.2 ≠ 0 ∨ rb.1.length = 0 ∨ YX q rb.1 = false ∨ (tokB q u.1 rb.1 == q.token) = false := by grind
  have hzz : z = (0, [], 132) := by rw [hz, if_pos hc2]
  exact kaE
 have hc2 : ¬ (rb.2.2 ≠ 0 ∨ rb.1.length = 0 ∨ YX q rb.1 = false ∨ (tokB q u.1 rb.1 == q.token) = false) := by grind
 have hzz : z = (((u.1 : Nat) : Int), rb.1, 0) := by rw [hz, if_neg hc2]
 refine kb3 ?_
 refine rg zs [2, 3] ?_
 refine ar ?_
 rw [hzz]
 exact ⟨_, rfl, fun k hk => oh, .tup (.cons (.agg (.cons (XC (by simp [h0])) (.cons (.kl trivial) (.cons (.kl (Wy _ _)) .nil)))) (.cons (.kl trivial) .nil))⟩
theorem fits_time {nf : Nat} {q : QryE} (h : Yu nf q = true) : 0 ≤ q.time ∧ q.time ≤ 1099511627776 := by
 unfold Yu U1 at h
 simp only [Bool.and_eq_true, decide_eq_true_eq] at h
 exact ⟨h.2.1.1.1.1.1.2, h.2.1.1.1.1.2⟩
theorem where_rel {fs : List Fml} (h : Zw fs = 0) (t : List UInt8) : ((0 ≤ (Qh fs t).2) ↔ (YP fs t).2.1 ≠ 0) ∧ (0 ≤ (Qh fs t).2 → (YP fs t).2.1 = 131) := by
 have hr := readR_rel fs t
 unfold YP
 rw [if_neg (by simp [h])]
 cases hp : Ws fs t with
 | ok x => rw [hp] at hr; rw [hr.1]; simp
 | error p => rw [hp] at hr; have hr : (Qh fs t).2 = p := hr; rw [hr]; simp
theorem NHl2.eqs {P Q : Prop} (g : Imp P Q := by (try simp only [go_sem, seval, hsz, hag, hmo, hszs, hags, hmos, f1, f2, hA, hB, Zk, Ze, Zr, bys, List.length_map, X5, X6, Xj, YZ]); exact NH) : Imp P Q := g
set_option maxHeartbeats 1600000 in
open NHl2 NY in
theorem Ub (fs : List Fml) (hfs : fs.length ≤ 1048576) (q : QryE) (hq : q.fine) (H : Heap) (n : Nat) : Ret prog 38 [Zk fs, Ze q] H n (.int .i64 (qcE fs q)) H n := by
 have hsz : (Ze q).sz = 10 := ZU q
 have hag : (Ze q).isAgg = true := rfl
 have hmo : (Ze q).memOK = true := rfl
 have hszs : (Zk fs).sz = 1 := rfl
 have hags : (Zk fs).isAgg = true := rfl
 have hmos : (Zk fs).memOK = true := rfl
 have hms : (markAV q).sz = 3 := rfl
 obtain ⟨z, hz⟩ : ∃ z, z = qcE fs q := ⟨_, rfl⟩
 rw [← hz]
 unfold qcE at hz
 have f1 : (n = n + 1) = False := osi
 have f2 : (n + 1 = n) = False := osi
 have hA := hsz
 have hB := hsz
 refine Ret.fin ?_
 refine fw func38 ntmps38 results38 ?_
 refine rg zs [2, 3] ?_
 refine rc zs [2, 3, 5] func69 ((Jt fs _ _)) ?_
 refine Z8 [2, 3, 5] (fun T' H' n' => ∃ e : Int, e = (if Zw fs ≠ 0 then Zw fs else if Yu fs.length q then 0 else 130) ∧ T' = tl [(2, .loc n 0 0 0 []), (3, .loc (n + 1) 0 0 0 []), (5, .int .i64 e)] ∧ H' n = some (.arr 0 1 [Zk fs]) ∧ H' (n + 1) = some (.arr 0 10 [Ze q]) ∧ (∀ k, k < n → H' k = H k) ∧ n' = n + 2) ?_ ?_
 ·refine rg zs [2, 3, 5, 11] ?_
  refine Zb ?_ ?_ <;> intro hb
  ·have hs0 : Zw fs = 0 := osb
   have he0 : ∀ a b : Int, (if Zw fs ≠ 0 then a else b) = b := fun a b => if_neg (by simp [hs0])
   refine rc1 zs [2, 3, 5] func70 ((Nq fs hfs q hq.fams _ _)) ?_
   refine ns ?_
   exact ⟨_, (he0 _ _).symm, rfl, fun k hk => onn⟩
  have hs0 : Zw fs ≠ 0 := osb
  have he0 : ∀ a b : Int, (if Zw fs ≠ 0 then a else b) = a := fun a b => if_pos hs0
  refine ak ?_
  refine ns ?_
  exact ⟨_, (he0 _ _).symm, rfl, fun k hk => onn⟩
 rintro T1 H1 n1 ⟨e, he, rfl, hA, hB, hlow, rfl⟩
 refine Za fun K1 hK1 => ?_
 refine rg zs [2, 3, 5, 16] ?_
 refine Zb ?_ ?_ <;> intro hb
 ·have hz2 : z = e := by
    rw [hz, he]; rw [he] at hb
    by_cases h1 : Zw fs = 0
    ·rw [if_neg (by simp [h1])] at hb
     have h2 : Yu fs.length q = false := by cases h2 : Yu fs.length q; rfl; (rw [h2] at hb; simp at hb)
     rw [if_neg (by simp [h1]), if_pos h2, if_neg (by simp [h1]), if_neg (by simp [h2])]
    ·rw [if_pos h1, if_pos h1]
  refine rg zs [4] ?_
  refine ar ?_
  rw [← hz2]
  exact ⟨_, rfl, fun k hk => by (try simp only [NF]); (repeat first | rw [if_pos rfl] | rw [if_pos trivial] | rw [if_neg om]); first | done | exact hlow k hk, .kl trivial⟩
 have hs1 : Zw fs = 0 ∧ Yu fs.length q = true := by
   rw [he] at hb
   by_cases h1 : Zw fs = 0
   ·rw [if_neg (by simp [h1])] at hb; refine ⟨h1, ?_⟩; cases h2 : Yu fs.length q; (rw [h2] at hb; simp at hb); rfl
   ·rw [if_pos h1] at hb; simp at hb; exact absurd hb h1
 rw [if_neg (by simp [hs1.1]), if_neg (by simp [hs1.2])] at hz
 refine kay ?_
 refine Za fun K2 hK2 => ?_
 refine rg zs [2, 3, 20] ?_
 refine Zb ?_ ?_ <;> intro hb
 ·have hw0 : 0 < q.whr.length := by have h9 := hb; simp at h9; exact List.length_pos_iff.2 h9
  refine rc zs [3, 7] func71 ((c_ref13_read fs hfs q.whr _ _)) ?_
  refine rg zs [3, 29] ?_
  refine Zb ?_ ?_ <;> intro hb
  ·have hz2 : z = 131 := by have h9 := of_decide_eq_true hb; obtain ⟨w1, w2⟩ := where_rel hs1.1 q.whr; rw [hz, if_pos ⟨hw0, w1.1 h9⟩]; exact w2 h9
   refine kag ?_
   rw [← hz2]
   exact kaO
  have h29 := of_decide_eq_false hb
  rw [if_neg (fun h => h29 ((where_rel hs1.1 q.whr).1.2 h.2))] at hz
  refine kaQ ?_
  refine rk zs [5] fun K V => ?_
  refine ck func60 ((Qw q hq (by have := fits_time hs1.2; omega) _ _)) ?_
  refine kas ?_
  refine kag ?_
  rw [hz]
  exact kaO
 have hw0 : q.whr.length = 0 := by have h9 := hb; simp at h9; simp [h9]
 rw [if_neg om] at hz
 refine kaQ ?_
 refine rk zs [5] fun K V => ?_
 refine ck func60 ((Qw q hq (by have := fits_time hs1.2; omega) _ _)) ?_
 refine kas ?_
 refine kag ?_
 rw [hz]
 exact kaO
end Go.Proofs.YtkmkbndcekklmaaGreatDoor
set_option maxRecDepth 10000
namespace Go.Proofs.YtkmkbndcekklmaaGreatDoor
open Go Go.Sx Go.Rt Go.Proofs
theorem rfQ_frame {b : List UInt8} (hb : b.length ≤ 1048576) : rfQ (Z5 b) = (b, ((8 + b.length + 4 : Nat) : Int), 0) := by
 have hl := XL b
 have hN : hd4 (Z5 b) = b.length := by
   rw [hd4_num om, List.drop_zero]
   have : (Z5 b).take 4 = Ym b.length := by unfold Z5; rw [List.append_assoc, List.append_assoc]; rfl
   rw [this, head_num om]
 have d4 : (Z5 b).take 4 = Ym b.length := by unfold Z5; rw [List.append_assoc, List.append_assoc]; rfl
 have d5 : ((Z5 b).drop 4).take 4 = lowB (sumF [Ym b.length]) := by unfold Z5; rw [List.append_assoc, List.append_assoc]; rfl
 have d8 : (Z5 b).drop 8 = b ++ lowB (sumF [b]) := by unfold Z5; rw [List.append_assoc, List.append_assoc]; rfl
 have d9 : (Z5 b).drop (8 + b.length) = lowB (sumF [b]) := by rw [← List.drop_drop, d8, List.drop_left]
 have l4 : ∀ v, (lowB v).take 4 = lowB v := fun v => rfl
 unfold rfQ
 rw [hN]
 unfold rfN
 rw [if_neg om, d5, d4, if_neg osi, if_neg om, if_neg om, d9, d8, List.take_left, l4, if_neg osi]
theorem rbB_B {b : List UInt8} {p most : Nat} {x w : List UInt8} (hx : x.length ≤ most) (hm : most < 18446744073709551616) (hp : p ≤ b.length) (hd : b.drop p = Zi x ++ w) : rbB b p most = (x, p + (Zi x).length, 0) := by
 unfold Zi at hd
 rw [List.append_assoc] at hd
 have e := ruB_B (v := x.length) om hp hd
 have hl := congrArg List.length hd
 simp only [List.length_drop, List.length_append] at hl
 have hu : 1 ≤ (Zg x.length).length := by rw [Zg]; split <;> simp
 have d2 : b.drop (p + (Zg x.length).length) = x ++ w := by rw [← List.drop_drop, hd, List.drop_left]
 unfold rbB
 rw [if_neg om, e]
 simp only
 rw [if_neg osi, if_neg om, if_neg om, d2, List.take_left]
 unfold Zi
 rw [List.length_append, Nat.add_assoc]
theorem XV {v : Int} (h0 : 0 ≤ v) (h1 : v < 18446744073709551616) : ((u64 v : Nat) : Int) = v := by unfold u64; omega
theorem tokB_len (q : QryE) (t : Int) (row : List UInt8) (h : row.length ≤ 256) : (tokB q t row).length ≤ 300 := by
 unfold tokB
 rw [XL]
 have h1 := Zj (Z0 t)
 have h2 := Zj (Z0 (sumF [Yw q]))
 have h3 := Zj (v := row.length) om
 unfold Zi
 simp only [List.length_append]
 omega
theorem readQ_tok {q : QryE} {t : Int} {row : List UInt8} (h : q.token = tokB q t row) (t1 : 1 ≤ t) (t2 : t ≤ 1099511627776) (hq : q.time = 0 ∨ q.time = t) (r1 : row.length ≠ 0) (r2 : row.length ≤ 256) (ha : YX q row = true) : ZR q = (t, row, 0) := by
 have e0 : ((u64 t : Nat) : Int) = t := XV om om
 have hl := XL (Zg (u64 t) ++ Zi row ++ Zg (u64 (sumF [Yw q])))
 have h1 := Zj (Z0 t)
 have h2 := Zj (Z0 (sumF [Yw q]))
 have h3 := Zj (v := row.length) om
 have hb : (Zg (u64 t) ++ Zi row ++ Zg (u64 (sumF [Yw q]))).length ≤ 1048576 := by unfold Zi; simp only [List.length_append]; omega
 have er : rfQ q.token = (Zg (u64 t) ++ Zi row ++ Zg (u64 (sumF [Yw q])), ((8 + (Zg (u64 t) ++ Zi row ++ Zg (u64 (sumF [Yw q]))).length + 4 : Nat) : Int), 0) := by rw [h]; exact rfQ_frame hb
 have eu := ruB_B (b := Zg (u64 t) ++ Zi row ++ Zg (u64 (sumF [Yw q]))) (p := 0) (v := u64 t) (w := Zi row ++ Zg (u64 (sumF [Yw q]))) (Z0 t) (Nat.zero_le _) (by rw [List.drop_zero, List.append_assoc])
 rw [Nat.zero_add] at eu
 have eb := rbB_B (b := Zg (u64 t) ++ Zi row ++ Zg (u64 (sumF [Yw q]))) (p := (Zg (u64 t)).length) (most := 256) (x := row) (w := Zg (u64 (sumF [Yw q]))) r2 om (by simp only [List.length_append]; omega) (by rw [List.append_assoc, List.drop_left])
 unfold ZR
 rw [if_neg (by rw [h]; unfold tokB; omega), er]
 simp only
 rw [if_neg osi, eu]
 simp only
 have hu : q.time ≠ 0 → u64 t = u64 q.time := fun hz => by rw [hq.resolve_left hz]
 rw [if_neg (by
   rintro (a | a | a | ⟨a, b⟩)
   ·exact a rfl
   ·omega
   ·omega
   ·exact b (hu a)), eb]
 simp only
 rw [if_neg (by
   rintro (a | a | a | a)
   ·exact a rfl
   ·exact r1 a
   ·rw [ha] at a; cases a
   ·rw [e0, ← h, beq_self_eq_true] at a; cases a), e0]
theorem readQ_is {q : QryE} (h : (ZR q).2.2 = 0) (h0 : q.token ≠ []) : q.token = tokB q (ZR q).1 (ZR q).2.1 := by
 unfold ZR at h ⊢
 have hl : q.token.length ≠ 0 := fun e => h0 (List.length_eq_zero_iff.1 e)
 rw [if_neg hl] at h ⊢
 split at h
 ·exact absurd h odc
 rename_i c1
 rw [if_neg c1]
 split at h
 ·exact absurd h odc
 rename_i c2
 rw [if_neg c2]
 split at h
 ·exact absurd h odc
 rename_i c3
 rw [if_neg c3]
 simp only
 have : (tokB q (ruB (rfQ q.token).1 0).1 (rbB (rfQ q.token).1 (ruB (rfQ q.token).1 0).2.1 256).1 == q.token) = true := by
   cases hh : (tokB q (ruB (rfQ q.token).1 0).1 (rbB (rfQ q.token).1 (ruB (rfQ q.token).1 0).2.1 256).1 == q.token)
   ·exact absurd (.inr (.inr (.inr hh))) c3
   ·rfl
 exact (eq_of_beq this).symm
theorem readQ_err (q : QryE) : (ZR q).2.2 = 0 ∨ (ZR q).2.2 = 132 := by
 unfold ZR
 split
 ·exact .inl rfl
 split
 ·exact .inr rfl
 split
 ·exact .inr rfl
 split
 ·exact .inr rfl
 ·exact .inl rfl
theorem readQ_turn {q : QryE} {q0 : QryE} {t : Int} {row : List UInt8} {i : Nat} {c : UInt8} (h : q.token = (tokB q0 t row).set i c) (hf : Yw q = Yw q0) (hne : q.token ≠ tokB q0 t row) : (ZR q).2.2 = 132 := by
 rcases readQ_err q with e | e
 ·exfalso
  have hl : (tokB q0 t row).length ≠ 0 := by unfold tokB; rw [XL]; omega
  have h0 : q.token ≠ [] := fun e => by rw [e] at h; exact hl (by rw [← List.length_set, ← h]; rfl)
  have hi := readQ_is e h0
  rw [h] at hi
  unfold tokB at hi
  have := frameB_set hi.symm
  apply hne
  rw [h]
  unfold tokB
  rw [hi]; exact this
 ·exact e
def dirB (rev : Bool) (a b : List UInt8) : Prop := if rev then Lib.compareBytes b a < 0 else Lib.compareBytes a b < 0
instance (rev : Bool) (a b : List UInt8) : Decidable (dirB rev a b) := by unfold dirB; infer_instance
def QR (nf : Nat) (x : RowE) : Prop := x.row.length ≠ 0 ∧ x.row.length ≤ 256 ∧ Vb nf x.cells = false
def visB (q : QryE) (t : Option Tst) (x : RowE) : Bool := YX q x.row && decide (Yg q t x.cells ≠ [])
def visR (q : QryE) (t : Option Tst) (x : RowE) : RowE := ⟨x.row, Yg q t x.cells⟩
def visL (q : QryE) (t : Option Tst) (l : List RowE) : List RowE := (l.filter (visB q t)).map (visR q t)
def XN (q : QryE) (start : List UInt8) (has : Bool) (row : List UInt8) : Bool := !has || (if q.rev then decide (Lib.compareBytes row start < 0) else decide (0 ≤ Lib.compareBytes row start))
theorem beyond_on {q : QryE} {a b : List UInt8} (h : dirB q.rev a b) (ha : Wh q a = true) : Wh q b = true := by
 unfold Wh dirB at *
 cases hr : q.rev
 ·rw [hr] at h ha
  simp only [Bool.false_eq_true, if_false] at h
  simp only [Bool.not_false, Bool.true_and, Bool.false_and, Bool.or_false, Bool.and_eq_true, decide_eq_true_eq] at ha ⊢
  refine ⟨ha.1, ?_⟩
  have a1 := cb_ge.1 ha.2
  have := cb_neg.1 (cb_le_lt a1 h)
  omega
 ·rw [hr] at h ha
  simp only [if_true] at h
  simp only [Bool.not_true, Bool.false_and, Bool.false_or, Bool.true_and, decide_eq_true_eq] at ha ⊢
  exact cb_lt_le h om
section
variable {nf : Nat} {q : QryE} {t : Option Tst} {tk : List UInt8 → List UInt8} {start : List UInt8} {has : Bool}
theorem comes_of {x : RowE} (hx : QR nf x) (ha : XN q start has x.row = true) {last : Option (List UInt8)} (hl : ∀ r, last = some r → dirB q.rev r x.row) : Nc nf q x last start has = true := by
 obtain ⟨h1, h2, h3⟩ := hx
 unfold Nc
 unfold XN at ha
 rw [decide_eq_false om, h3, ha]
 cases last with
 | none => rfl
 | some r =>
   have := hl r rfl
   unfold dirB at this
   cases hr : q.rev
   ·rw [hr] at this
    simp only [Bool.false_eq_true, if_false] at this ⊢
    have := cb_neg.1 this
    simp [this]
   ·rw [hr] at this
    simp only [if_true] at this ⊢
    simp [this]
def Kw (q : QryE) (tk : List UInt8 → List UInt8) (v : List RowE) : PgE :=
 if (v.length : Int) < q.rows then ⟨v, [], true⟩ else ⟨v.take q.rows.toNat, tk (v.getD (q.rows.toNat - 1) default).row, false⟩
theorem Mg (hs : QP q start has) : ∀ (l : List RowE) (m : Nat) (last : Option (List UInt8)) (acc : List RowE), (∀ x ∈ l, QR nf x ∧ XN q start has x.row = true) →
   l.Pairwise (fun a b => dirB q.rev a.row b.row) → (∀ r, last = some r → ∀ x ∈ l, dirB q.rev r x.row) → (acc.length : Int) < q.rows →
   ∃ m', runG nf q t tk start has 0 m last acc l = (Kw q tk (acc ++ visL q t l), m', 0)
 | [], m, last, acc, _, _, _, hk => by
   refine ⟨m + 1, ?_⟩
   unfold runG Kw visL
   simp only [List.filter_nil, List.map_nil, List.append_nil]
   rw [if_neg osi, if_pos hk]
 | x :: l, m, last, acc, hg, hp, hl, hk => by
   obtain ⟨hx, ha⟩ := hg x osi
   have hc0 := comes_of (last := none) hx ha (fun r h => by cases h)
   have hc : YI q x.row last start has = true ∧ Vb nf x.cells = false := by
     refine ⟨?_, hx.2.2⟩
     unfold YI
     rw [if_neg (by have := hx.1; have := hx.2.1; omega)]
     cases last with
     | none =>
       unfold XN at ha
       cases has with
       | false => simp
       | true => cases hr : q.rev <;> rw [hr] at ha <;> simpa using ha
     | some r =>
       have := hl r rfl x osi
       unfold dirB at this
       cases hr : q.rev
       ·rw [hr] at this
        simp only [Bool.false_eq_true, if_false] at this ⊢
        simpa using cb_neg.1 this
       ·rw [hr] at this
        simp only [if_true] at this ⊢
        simpa using this
   have hb := Lg hs hc0
   have hg2 : ∀ y ∈ l, QR nf y ∧ XN q start has y.row = true := fun y hy => hg y (by simp [hy])
   have hp1 := (List.pairwise_cons.1 hp).1
   have hp2 := (List.pairwise_cons.1 hp).2
   have hl2 : ∀ r, some x.row = some r → ∀ y ∈ l, dirB q.rev r y.row := fun r hr y hy => by cases hr; exact hp1 y hy
   unfold runG
   rw [if_neg (by rw [hc.1]; simp), if_neg (by rw [hc.2]; simp)]
   by_cases hy : Wh q x.row = true
   ·rw [if_pos hy]
    have hall : ∀ y ∈ x :: l, visB q t y = false := fun y hm => by
      have e : YX q y.row = false := by
        rcases List.mem_cons.1 hm with rfl | hm
        ·rw [hy] at hb; simpa using hb
        ·have h1 := beyond_on (hp1 y hm) hy
         have h2 := Lg hs (comes_of (last := none) (hg2 y hm).1 (hg2 y hm).2 (fun r h => by cases h))
         rw [h1] at h2; simpa using h2
      unfold visB; rw [e]; rfl
    have hv : visL q t (x :: l) = [] := by
      unfold visL
      rw [List.filter_eq_nil_iff.2 fun y hm => by rw [hall y hm]; simp]; rfl
    refine ⟨m + 1, ?_⟩
    unfold Kw
    rw [hv, List.append_nil, if_pos hk]
   ·rw [if_neg hy]
    have hask : YX q x.row = true := by
      cases h : YX q x.row
      ·rw [h] at hb; exact absurd osb hy
      ·rfl
    by_cases he : Yg q t x.cells = []
    ·rw [if_pos he]
     have hv : visL q t (x :: l) = visL q t l := by
       unfold visL
       rw [List.filter_cons_of_neg (by unfold visB; rw [hask, he]; simp)]
     rw [hv]
     exact Mg hs l (m + 1) (some x.row) acc hg2 hp2 hl2 hk
    ·rw [if_neg he]
     have hv : visL q t (x :: l) = visR q t x :: visL q t l := by
       unfold visL
       rw [List.filter_cons_of_pos (by unfold visB; rw [hask, decide_eq_true he]; rfl), List.map_cons]
     by_cases hr : ((acc.length + 1 : Nat) : Int) = q.rows
     ·rw [if_pos hr]
      refine ⟨m + 1, ?_⟩
      have hn : q.rows.toNat = acc.length + 1 := om
      have hlt : ¬ ((acc ++ visL q t (x :: l)).length : Int) < q.rows := by rw [hv, List.length_append, List.length_cons]; omega
      unfold Kw
      rw [if_neg hlt, hv, hn]
      have e1 : (acc ++ visR q t x :: visL q t l).take (acc.length + 1) = acc ++ [visR q t x] := by rw [List.take_append, List.take_of_length_le om]; simp
      have e2 : (acc ++ visR q t x :: visL q t l).getD (acc.length + 1 - 1) default = visR q t x := by simp [List.getD]
      rw [e1, e2]; rfl
     ·rw [if_neg hr]
      have := Mg hs l (m + 1) (some x.row) (acc ++ [visR q t x]) hg2 hp2 hl2 (by rw [List.length_append]; simp; omega)
      rw [hv]
      rw [List.append_assoc, List.singleton_append] at this
      exact this
end
def dirL (q : QryE) (l : List RowE) : List RowE := if q.rev then l.reverse else l
def WQ (q : QryE) (l : List RowE) : List RowE := (dirL q l).filter fun x => XN q (ZA q).1 (ZA q).2.1 x.row
def upL (l : List RowE) : Prop := l.Pairwise fun a b => Lib.compareBytes a.row b.row < 0
theorem dirL_up {q : QryE} {l : List RowE} (h : upL l) : (dirL q l).Pairwise fun a b => dirB q.rev a.row b.row := by
 unfold dirL dirB
 cases q.rev
 ·simp only [Bool.false_eq_true, if_false]; exact h
 ·simp only [if_true]
  rw [List.pairwise_reverse]; exact h
theorem Nb {q : QryE} {l : List RowE} {x : RowE} : x ∈ dirL q l ↔ x ∈ l := by
 unfold dirL; split
 ·exact List.mem_reverse
 ·exact Iff.rfl
def allV (q : QryE) (t : Option Tst) (l : List RowE) : List RowE := visL q t (dirL q l)
theorem visL_from {q : QryE} {t : Option Tst} {l : List RowE} : visL q t (WQ q l) = (allV q t l).filter fun y => XN q (ZA q).1 (ZA q).2.1 y.row := by
 unfold visL WQ allV visL
 rw [List.filter_map, List.filter_filter, List.filter_filter]
 congr 1
 exact List.filter_congr fun x _ => by rw [Bool.and_comm]; rfl
theorem from_none {q : QryE} {t : Option Tst} {l : List RowE} (h : q.token = []) : visL q t (WQ q l) = allV q t l := by
 rw [visL_from]
 refine List.filter_eq_self.2 fun y hy => ?_
 have hr : ZR q = (0, [], 0) := by unfold ZR; rw [if_pos (by rw [h]; rfl)]
 have ha : YX q y.row = true := by
   unfold allV visL at hy
   obtain ⟨x, hx, rfl⟩ := List.mem_map.1 hy
   have := (List.mem_filter.1 hx).2
   unfold visB at this
   simp only [Bool.and_eq_true] at this
   exact this.1
 unfold YX at ha
 simp only [Bool.and_eq_true, Bool.or_eq_true, decide_eq_true_eq] at ha
 unfold XN ZA
 rw [hr]
 simp only
 rw [if_neg osi, if_neg osi]
 cases hv : q.rev
 ·simp only [Bool.false_eq_true, if_false]
  simp [ha.1]
 ·simp only [if_true]
  rcases ha.2 with h1 | h1
  ·simp [h1]
  ·simp [h1]
theorem run_from {fs : List Fml} {q : QryE} {clock : Int} {l : List RowE} (hq : qcE fs q = 0) (hc : 1 ≤ clock ∧ clock ≤ 1099511627776) (hl : upL l) (hg : ∀ x ∈ l, QR fs.length x) :
   ∃ m, runE fs q clock (some (WQ q l, 0)) = (Kw q (tokB q (atE q clock).1) (visL q (WN fs q) (WQ q l)), m, 0) := by
 have hr : (ZR q).2.2 = 0 := by
   unfold qcE at hq
   split at hq
   ·rename_i h; exact absurd hq h
   split at hq
   ·exact absurd hq odc
   split at hq
   ·rename_i h; exact absurd hq h.2
   ·exact hq
 have hrows : 1 ≤ q.rows := by
   unfold qcE at hq
   split at hq
   ·rename_i h; exact absurd hq h
   split at hq
   ·exact absurd hq odc
   rename_i h
   have h : Yu fs.length q = true := by simpa using h
   unfold Yu U1 at h
   simp only [Bool.and_eq_true, decide_eq_true_eq] at h
   omega
 have ha : (atE q clock).2 = 0 := by
   unfold atE
   rw [if_neg om, if_neg (by rw [hr]; simp)]
   split
   ·rfl
   ·split <;> rfl
 unfold runE
 rw [if_neg (by rw [hq]; simp), if_neg (by rw [ha]; simp)]
 obtain ⟨m, hm⟩ := Mg (nf := fs.length) (t := WN fs q) (tk := tokB q (atE q clock).1) (startE_ok q hr) (WQ q l) 0 none []
   (fun x hx => by
     obtain ⟨h1, h2⟩ := List.mem_filter.1 hx
     exact ⟨hg x (Nb.1 h1), h2⟩)
   ((dirL_up hl).sublist List.filter_sublist) (fun r h => by cases h) oz
 exact ⟨m, hm⟩
end Go.Proofs.YtkmkbndcekklmaaGreatDoor
namespace Go.Rt
open Go Go.Sx
section
variable {fs : List Fml} {t : List UInt8}
end
end Go.Rt
set_option maxRecDepth 10000
namespace Go.Proofs.YtkmkbndcekklmaaGreatDoor
open Go Go.Sx Go.Rt Go.Proofs Tryz
instance : Inhabited CR := ⟨CR.none⟩
structure WantOK (fs : List Fml) (q : QryE) : Prop where
 sch : Zw fs = 0
 ok : 0 < q.whr.length → ∃ x, Ws fs q.whr = .ok x
theorem kl_row (r : RowE) (n : Nat) : (Zv r).kl n := ⟨Wy _ _, WE Zx (fun c => ⟨trivial, Wy _ _, trivial, Wy _ _, trivial⟩) _, trivial⟩
theorem lists_eq {α : Type} [Inhabited α] {a b : List α} (hl : a.length = b.length) (h : ∀ j, j < a.length → a.getD j default = b.getD j default) : a = b :=
 List.ext_getElem hl fun i h1 h2 => by have := h i h1; simpa [List.getD, List.getElem?_eq_getElem h1, List.getElem?_eq_getElem h2] using this
open N0 in
theorem X9 (a b : List UInt8) (H : Heap) (n : Nat) : Ret prog 26 [bys a, bys b] H n (.bool (a == b)) H n := by
 refine fw func26 ntmps26 results26 ?_
 refine kb1 ?_
 refine rc zs [4] func46 ((WU a b _ _)) ?_
 refine ar ?_
 trivial
open N0 in
theorem Xm (e : Int) (H : Heap) (n : Nat) : Ret prog 20 [.int .i64 e] H n (.int .i64 e) H n := by
 refine fw func20 ntmps20 results20 ?_
 refine kcu ?_
 refine kal ?_
 trivial
theorem qryE_eq (a b : QryE) : (a = b) ↔ ((((a.frm = b.frm ∧ a.to = b.to) ∧ a.pre = b.pre) ∧ a.token = b.token) ∧ a.fams = b.fams) ∧ ((((a.time = b.time ∧ a.n = b.n) ∧ a.rows = b.rows) ∧ a.rev = b.rev) ∧ a.whr = b.whr) := by
 cases a; cases b; simp only [QryE.mk.injEq]; constructor
 ·rintro ⟨h1, h2, h3, h4, h5, h6, h7, h8, h9, h10⟩; exact ⟨⟨⟨⟨⟨h1, h2⟩, h4⟩, h10⟩, h3⟩, ⟨⟨⟨h5, h6⟩, h7⟩, h8⟩, h9⟩
 ·rintro ⟨⟨⟨⟨⟨h1, h2⟩, h4⟩, h10⟩, h3⟩, ⟨⟨⟨h5, h6⟩, h7⟩, h8⟩, h9⟩; exact ⟨h1, h2, h3, h4, h5, h6, h7, h8, h9, h10⟩
theorem NE10.eqs {P Q : Prop} (g : Imp P Q := by (try simp only [go_sem, seval, hza, haa, hma, hzb, hab, hmb, f1, m1, m2, e1, Ze, Zr, bys, List.length_map, Int.toNat_natCast]); exact NH) : Imp P Q := g
theorem NE10.sd {P : Prop} (g : P := by first | exact ⟨om, om⟩ | (intro _ h9; rw [h9]; rfl) | fail) : P := g
set_option maxRecDepth 100000 in
set_option maxHeartbeats 3200000 in
open NE10 NZ in
theorem J6 (a b : QryE) (ha : a.fams.length ≤ 1048576) (hb9 : b.fams.length ≤ 1048576) (H : Heap) (n : Nat) : Ret prog 44 [Ze a, Ze b] H n (.bool (decide (a = b))) H n := by
 have hza : (Ze a).sz = 10 := ZU a
 have haa : (Ze a).isAgg = true := rfl
 have hma : (Ze a).memOK = true := rfl
 have hzb : (Ze b).sz = 10 := ZU b
 have hab : (Ze b).isAgg = true := rfl
 have hmb : (Ze b).memOK = true := rfl
 have f1 : (n = n + 1) = False := osi
 have m1 := hza
 have m2 := hza
 have e1 := hza
 refine Ret.fin ?_
 refine fw func44 ntmps44 results44 ?_
 refine rg zs [2, 3] ?_
 refine Za fun K1 hK1 => ?_
 refine rk zs [2, 3, 44] fun K V => ?_
 refine ck func26 ((X9 a.frm b.frm _ _)) ?_
 refine cg func26 (fun _ => (X9 a.to b.to _ _)) ?_
 refine cg func26 (fun _ => (X9 a.pre b.pre _ _)) ?_
 refine cg func26 (fun _ => (X9 a.token b.token _ _)) ?_
 refine kas ?_
 refine Zb ?_ ?_ <;> intro hb
 ·have hne : ¬ ((((a.frm = b.frm ∧ a.to = b.to) ∧ a.pre = b.pre) ∧ a.token = b.token) ∧ a.fams.length = b.fams.length) := by rintro ⟨⟨⟨⟨h1, h2⟩, h3⟩, h4⟩, h5⟩; rw [h1, h2, h3, h4, h5] at hb; simp at hb
  have hres : decide (a = b) = false := decide_eq_false fun e => hne (by rw [e]; exact ⟨⟨⟨⟨rfl, rfl⟩, rfl⟩, rfl⟩, rfl⟩)
  refine kag ?_
  exact ⟨_, rfl, fun k hk => oh, Frz.eq (by rw [hres]) trivial⟩
 have hl : (((a.frm = b.frm ∧ a.to = b.to) ∧ a.pre = b.pre) ∧ a.token = b.token) ∧ a.fams.length = b.fams.length := by have h9 := hb; clear hb; simp at h9; refine ⟨⟨⟨⟨h9.1.1.1.1, h9.1.1.1.2⟩, h9.1.1.2⟩, h9.1.2⟩, om⟩
 have hlen := hl.2
 refine kay ?_
 refine Za fun K2 hK2 => ?_
 refine rg zs [2, 3, 5] ?_
 refine kbM ?_
 refine Zp (fun T' H' n' => ∃ i : Nat, i ≤ a.fams.length ∧ (∀ j, j < i → a.fams.getD j default = b.fams.getD j default) ∧ T' = tl [(2, .loc n 0 0 0 []), (3, .loc (n + 1) 0 0 0 []), (5, .int .i64 i)] ∧ H' = (H.put n (some (.arr 0 10 [Ze a]))).put (n + 1) (some (.arr 0 10 [Ze b])) ∧ n' = n + 2) (fun T' _ _ => a.fams.length - iv (T' 5)) ?_ ?_
 ·exact kcy
 rintro T1 H1 n1 ⟨i, hi, hfa, rfl, rfl, rfl⟩
 refine Za fun K3 hK3 => ?_
 refine rg zs [2, 3, 5, 49] ?_
 refine Zb ?_ ?_ <;> intro hb
 ·have hci : i < a.fams.length := ott
  have m1 : nth (a.fams.map fun x : Int => (.int .i64 x : AV)) i = .int .i64 (a.fams.getD i default) := ZC (fun x : Int => (.int .i64 x : AV)) a.fams i hci
  have m2 : nth (b.fams.map fun x : Int => (.int .i64 x : AV)) i = .int .i64 (b.fams.getD i default) := ZC (fun x : Int => (.int .i64 x : AV)) b.fams i om
  have e1 : IntKind.i64.wrap ((i : Int) + 1) = ((i + 1 : Nat) : Int) := w1 om
  refine kba ?_
  refine bk fun K4 hK4 => ?_
  refine dx zs [2, 3, 5, 62] [.q, .q, .m, .q, .q, .q, .q, .m, .q, .q, .q] [0, 1, 2, 3, 4, 5, 6, 7, 8, 9, 10] [0, 1, 2, 3, 4, 5, 6, 7, 8, 9, 10] fun K V => ?_
  refine kas ?_
  refine Zb ?_ ?_ <;> intro hb
  ·have hres : decide (a = b) = false := decide_eq_false fun e => by rw [e] at hb; simp at hb
   refine kag ?_
   exact ⟨_, rfl, fun k hk => oh, Frz.eq (by rw [hres]) trivial⟩
  have hxy : a.fams.getD i default = b.fams.getD i default := by have h9 := hb; simp at h9; exact h9
  refine kb3 ?_
  refine rg1 zs [2, 3, 5] ?_
  exact ⟨⟨i + 1, om, fun j hj => (by rcases Nat.lt_or_ge j i with h9 | h9; exact hfa j h9; rw [show j = i by omega]; exact hxy), rfl⟩, by omega⟩
 have hci : i = a.fams.length := otf
 have hff : a.fams = b.fams := lists_eq hlen (hci ▸ hfa)
 refine ax ?_
 apply hK2
 refine kag ?_
 first
 | (refine ⟨_, rfl, fun k hk => oh, Frz.eq ?_ trivial⟩
    rw [show decide (a = b) = decide ((((a.time = b.time ∧ a.n = b.n) ∧ a.rows = b.rows) ∧ a.rev = b.rev) ∧ a.whr = b.whr) from decide_eq_decide.2 (by rw [qryE_eq]; exact ⟨fun h => h.2, fun h => ⟨⟨hl.1, hff⟩, h⟩⟩)]
    clear hl
    by_cases h1 : a.time = b.time <;> by_cases h2 : a.n = b.n <;> by_cases h3 : a.rows = b.rows <;> by_cases h4 : a.rev = b.rev <;> by_cases h5 : a.whr = b.whr <;> simp [h1, h2, h3, h4, h5])
structure LdS (q : QryE) (k1 k2 k3 k4 kw kf vf : Nat) (H : Heap) : Prop where
 h1 : H k1 = some (VN (k1, q.frm))
 h2 : H k2 = some (VN (k2, q.to))
 h3 : H k3 = some (VN (k3, q.pre))
 h4 : H k4 = some (VN (k4, q.token))
 hw : H kw = some (.arr 0 1 [Vl (k1, q.frm), Vl (k2, q.to), Vl (k3, q.pre), Vl (k4, q.token)])
 hf : H kf = some (.arr vf 1 ((q.fams ++ [-77]).map fun x : Int => (.int .i64 x : AV)))
 d : (k1 ≠ k2 ∧ k1 ≠ k3 ∧ k1 ≠ k4 ∧ k2 ≠ k3 ∧ k2 ≠ k4 ∧ k3 ≠ k4) ∧ (kw ≠ k1 ∧ kw ≠ k2 ∧ kw ≠ k3 ∧ kw ≠ k4) ∧ (kf ≠ k1 ∧ kf ≠ k2 ∧ kf ≠ k3 ∧ kf ≠ k4 ∧ kf ≠ kw)
end Go.Proofs.YtkmkbndcekklmaaGreatDoor
namespace Go.Sx
open Go
end Go.Sx
set_option maxRecDepth 10000
namespace Go.Proofs.YtkmkbndcekklmaaGreatDoor
open Go Go.Sx Go.Rt Go.Proofs Tryz
theorem _root_.Go.Sx.Zm.adoptO {P : Program} {f : FuncId} {args : List AV} {H : Heap} {n : Nat} {K : ARes → Heap → Nat → Prop} (k esz : Nat) {ver e : Nat} {els els' : List AV} (hk : H k = some (.arr ver e els)) (ha : AdpL n els els')
   (h : Zm P f args ((H.put n (some (.arr 0 esz []))).put k (some (.arr ver e els'))) (n + 1) K) : Zm P f args H n K := fun c w vs hs hr => by
 have hst := N8 hs esz
 have hkn : k ≠ n := fun e => by subst e; rw [(hs.fresh _ (Nat.le_refl _)).1] at hk; simp at hk
 have hst2 := Step.retell (els' := els') hst.sim (k := k) (by rw [NE _ _ hkn]; exact hk) (fun ds hd => ha.relF NI hd) ha.len.symm ha.szAll
 exact (h _ w vs (hst.trans hst2).sim (RelT.mono (hst.trans hst2).le _ _ hr)).mono fun e w' ⟨res, c', H', n', V, hst3, hm⟩ => ⟨res, c', H', n', V, (hst.trans hst2).trans hst3, hm⟩
def srcN (rows : List RowE) (err : Int) : AObj := .arr 0 5 [.agg [.sl 2 (rows.map Zv), .int .i64 err, .int .i64 0, .nilsl, .nilsl]]
def RunO (ks : Nat) (z : PgE × Nat × Int) (H : Heap) (n : Nat) (res : ARes) (H' : Heap) (n' : Nat) : Prop :=
 n ≤ n' ∧ (∀ k, k < n → k ≠ ks → H' k = H k) ∧ ∃ a pk, res = .val (.tup [a, .int .i64 z.2.2]) ∧ Own H' a (pgAV z.1) pk ∧ pk.Nodup ∧ (∀ k ∈ pk, n ≤ k ∧ k < n')
def RunP (ks : Nat) (z : PgE × Nat × Int) (H : Heap) (n : Nat) (res : ARes) (H' : Heap) (n' : Nat) : Prop :=
 n ≤ n' ∧ (∀ k, k < n → k ≠ ks → H' k = H k) ∧ res = .val (.tup [pgAV z.1, .int .i64 z.2.2])
theorem RunO.frz {ks : Nat} {z : PgE × Nat × Int} {H : Heap} {n : Nat} {P : Program} {f : FuncId} {args : List AV} (h : Zm P f args H n (RunO ks z H n)) : Zm P f args H n (RunP ks z H n) :=
 h.frzS fun res H1 n1 ⟨h1, h2, a, pk, hr, ho, hd, hp⟩ => by
   have e := Pb (j := .i64) (y := z.2.2) ho
   exact ⟨_, _, fun k => k ∈ pk, inferInstance, hr, FzO.own e (fun k hk => hk), h1, fun k a b => (Heap.dropS_ne (S := fun k => k ∈ pk) (fun hm => by have := hp k hm; omega)).trans (h2 k a b), rfl⟩
theorem o_query_Run (fs : List Fml) (hfs : fs.length ≤ 1048576) (q : QryE) (hqf : q.fine) (clock : Int) (rows : List RowE) (err : Int) (hrw : Vt rows) (ks : Nat) {H : Heap} {n : Nat} (hG : GOK 1 1 H n) (hs : H ks = some (srcN rows err)) :
   Zm prog 18 [Zk fs, Ze q, .int .i64 clock, .iface 52 (.loc ks 0 0 0 [])] H n (RunO ks (runE fs q clock (some (rows, err))) H n) :=
 Zm.below hs fun hks => by
   refine Zm.adoptO ks 1 (ver := 0) (e := 5) (els := [.agg [.sl 2 (rows.map Zv), .int .i64 err, .int .i64 0, .nilsl, .nilsl]]) (els' := [.agg [.sl 2 (rows.map Zv), .int .i64 err, .int .i64 0, .osl n 0 0 0, .nilsl]]) hs ⟨Adp.agg ⟨.refl _ _, .refl _ _, .refl _ _, Adp.nilsl _, .refl _ _, trivial⟩, trivial⟩ ?_
   refine Zm.adoptO ks 2 (ver := 0) (e := 5) (els := [.agg [.sl 2 (rows.map Zv), .int .i64 err, .int .i64 0, .osl n 0 0 0, .nilsl]]) (els' := [Uq rows err 0 n 0 0 (n + 1) 0 0]) (NG _ _ _) ⟨Adp.agg ⟨.refl _ _, .refl _ _, .refl _ _, .refl _ _, Adp.nilsl _, trivial⟩, trivial⟩ ?_
   obtain ⟨H2, hH2⟩ : ∃ x, x = (((((H.put n (some (.arr 0 1 []))).put ks (some (.arr 0 5 [.agg [.sl 2 (rows.map Zv), .int .i64 err, .int .i64 0, .osl n 0 0 0, .nilsl]]))).put (n + 1) (some (.arr 0 2 []))).put ks (some (.arr 0 5 [Uq rows err 0 n 0 0 (n + 1) 0 0]))) : Heap) := ⟨_, rfl⟩
   rw [← hH2]
   have g1 : H2 ks = some (.arr 0 5 [Uq rows err 0 n 0 0 (n + 1) 0 0]) := by rw [hH2]; (try simp only [NF]); (repeat first | rw [if_pos rfl] | rw [if_pos trivial] | rw [if_neg om])
   have g2 : H2 n = some (.arr 0 1 []) := by rw [hH2]; (try simp only [NF]); (repeat first | rw [if_pos rfl] | rw [if_pos trivial] | rw [if_neg om])
   have g3 : H2 (n + 1) = some (.arr 0 2 []) := by rw [hH2]; (try simp only [NF]); (repeat first | rw [if_pos rfl] | rw [if_pos trivial] | rw [if_neg om])
   have g4 : ∀ k, k < n → k ≠ ks → H2 k = H k := fun k a b => by rw [hH2]; (try simp only [NF]); (repeat first | rw [if_pos rfl] | rw [if_pos trivial] | rw [if_neg om])
   have hne : ∀ g o, H g = some (.glob o V5) → g ≠ ks := fun g o hg e => by rw [e, hs] at hg; cases hg
   have hne2 : ∀ g o, H g = some (.glob o KD) → g ≠ ks := fun g o hg e => by rw [e, hs] at hg; cases hg
   have hG2 : GOK 1 1 H2 (n + 1 + 1) := hG.at2 (by
     by_cases hn : (1 : Nat) = 1
     ·rw [hn]; exact g4 _ hG.get (hne _ _ hG.table)
     ·exact g4 _ hG.gek (hne2 _ _ (hG.kindsC hn))) (g4 _ hG.get (hne _ _ hG.table)) om
   have hS : SrcS rows err ks n (n + 1) (n + 2) 0 0 0 [] [] [] H2 (n + 1 + 1) := ⟨g1, g2, fun p hp => (by cases hp), fun p hp => (by cases hp), osi, g3, Pile.nil _ _ _, om, fun p hp => (by cases hp)⟩
   refine (x_query_Run fs hfs q hqf clock rows err hrw ks n (n + 1) (n + 2) 0 0 hG2 (QL.ro q H2) (fun j hj => by cases hj) hS).mono ?_
   rintro res H3 n3 ⟨h1, h2, a, pk, vw, vt, kb, tels, tk, hr, ho, hd, hp, _⟩
   exact ⟨om, fun k a b => (h2 k om b om om).trans (g4 k a b), a, pk, hr, ho, hd, fun k hk => by have := hp k hk; omega⟩
theorem YK (fs : List Fml) (hfs : fs.length ≤ 1048576) (q : QryE) (hqf : q.fine) (clock : Int) (rows : List RowE) (err : Int) (hrw : Vt rows) (ks : Nat) {H : Heap} {n : Nat} (hG : GOK 1 1 H n) (hs : H ks = some (srcN rows err)) :
 Zm prog 18 [Zk fs, Ze q, .int .i64 clock, .iface 52 (.loc ks 0 0 0 [])] H n (RunP ks (runE fs q clock (some (rows, err))) H n) := RunO.frz (o_query_Run fs hfs q hqf clock rows err hrw ks hG hs)
def twoF : List Fml := [⟨[97], 3, 0⟩, ⟨[98], 3, 0⟩]
def XZ (i : Nat) : RowE := ⟨[114, UInt8.ofNat (49 + i)], [⟨0, [120], 5, [49]⟩, ⟨1, [121], 4, [50]⟩]⟩
def ZF : List RowE := [XZ 0, XZ 1, XZ 2]
open N0 in
theorem YJ (H : Heap) (n : Nat) : Ret prog 14 [] H n (Zk twoF) H n := by
 refine Ret.fin ?_
 refine fw func14 ntmps14 results14 ?_
 refine kcu ?_
 refine kcu ?_
 refine ar ?_
 exact ⟨_, rfl, fun k hk => oh, .kl (kl_sch twoF _)⟩
theorem plain_at {i : Nat} (h : i < 3) : ZF.getD i default = XZ i := by rcases i with _ | _ | _ | i <;> first | rfl | omega
theorem plain_byte {i : Nat} (h : i < 3) : Zd (UInt8.ofNat (49 + i)) = .int .u8 ((49 + i : Nat) : Int) := by rcases i with _ | _ | _ | i <;> first | rfl | omega
theorem NE60.eqs {P Q : Prop} (g : Imp P Q := by (try simp only [go_sem, seval, e1, e2, e3, e4, g1, g2, g3, g4, g5, g6, hst, Nat.add_assoc]); exact NH) : Imp P Q := g
theorem NE60.inz {P Q : Prop} (g : Imp P Q := by refine Imp.up eqs ?_; (repeat (first | (refine Imp.nd ?_ ?_; · first | exact ⟨rfl, fun x hx => by simp only [List.mem_cons, List.not_mem_nil, or_false] at hx; rcases hx with rfl | rfl <;> exact ⟨rfl, rfl⟩⟩ | exact ⟨1, rfl, rfl⟩) | refine Imp.pl ?_)); exact NH) : Imp P Q := g
set_option maxHeartbeats 1600000 in
open NE60 in
theorem WL (H : Heap) (n : Nat) : Ret prog 17 [] H n (.sl 2 (ZF.map Zv)) H n := by
 have e1 : n = n := rfl
 have e2 : n = n := rfl
 have e3 : n = n := rfl
 have e4 : n = n := rfl
 have g6 : n = n := rfl
 have hst : n = n := rfl
 have g1 : ∀ k : Nat, (k = k + 1) = False := fun k => by simp
 have g2 : ∀ k : Nat, (k = k + 2) = False := fun k => by simp
 have g3 : ∀ k : Nat, (k = k + 3) = False := fun k => by simp
 have g4 : ∀ k : Nat, (k = k + 4) = False := fun k => by simp
 have g5 : ∀ k : Nat, (k = k + 5) = False := fun k => by simp
 refine Ret.fin ?_
 refine fw func17 ntmps17 results17 ?_
 refine rg zs [] ?_
 refine rg zs [1] ?_
 refine Za fun K1 hK1 => ?_
 refine Yk 1 2 rfl ?_
 refine rg zs [1, 2] ?_
 refine ZM ?_
 refine Zp (fun T' H' n' => ∃ i : Nat, i ≤ 3 ∧ T' = tl [(1, .osl n i 0 i), (2, .int .i64 i)] ∧ H' n = some (.arr i 2 ((ZF.take i).map Zv)) ∧ (∀ k, k < n → H' k = H k) ∧ n' = n + 1 + 6 * i) (fun T' _ _ => 3 - iv (T' 2)) ?_ ?_
 ·exact ⟨0, by omega, rfl, by (try simp only [NF]); (repeat first | rw [if_pos rfl] | rw [if_pos trivial] | rw [if_neg (by omega)]); rfl, fun k hk => by (try simp only [NF]); (repeat first | rw [if_pos rfl] | rw [if_pos trivial] | rw [if_neg (by omega)]), rfl⟩
 rintro T1 H1 n1 ⟨i, hi, rfl, b1, hlow, hn1⟩
 refine Za fun K2 hK2 => ?_
 refine rg zs [1, 2, 5] ?_
 refine Zb ?_ ?_ <;> intro hb
 ·have hci : i < 3 := by have := of_decide_eq_true hb; omega
  have e1 : IntKind.i64.wrap (49 + (i : Int)) = ((49 + i : Nat) : Int) := by rw [w64 (by omega) (by omega)]; omega
  have e2 : IntKind.u8.wrap ((49 + i : Nat) : Int) = ((49 + i : Nat) : Int) := by rcases i with _ | _ | _ | i <;> first | rfl | omega
  have e3 : IntKind.i64.wrap ((i : Int) + 1) = ((i + 1 : Nat) : Int) := w1 (by omega)
  have e4 : (n = n1) = False := by simp; omega
  refine ak ?_
  apply hK2
  refine bk fun K3 hK3 => ?_
  refine rg zs [1, 2, 3] ?_
  refine rg zo [1, 2, 3] ?_
  refine Nv (n1 + 5) n1 (ver := 0) (e := 4) (els := (XZ i).cells.map Zx) (vj := 0) (ej := 2) (lj := [.agg [.sl 1 [.int .u8 114, .int .u8 ((49 + i : Nat) : Int)], .osl (n1 + 5) 0 0 2]]) (lj' := [Zv (XZ i)]) (by (try simp only [NF]); (repeat first | rw [if_pos rfl] | rw [if_pos trivial] | rw [if_neg (by omega)]); rfl) (by (try simp only [NF]); (repeat first | rw [if_pos rfl] | rw [if_pos trivial] | rw [if_neg (by omega)])) (by omega) ⟨FzV.agg ⟨?_, FzV.osl (off := 0) (len := 2) (by simp [XZ]), trivial⟩, trivial⟩ ?_
  ·rw [← plain_byte hci]; exact .refl _
  have g6 : ∀ j : Nat, (n = n1 + j) = False := fun j => by simp; omega
  have hst : strip true (Zv (XZ i)) = Zv (XZ i) := rfl
  have hl : (List.map Zv (List.take i ZF)).length = i := by rw [List.length_map, List.length_take, show ZF.length = 3 from rfl]; omega
  have hrs := Mk (XZ i)
  have hrm : (Zv (XZ i)).memOK = true := rfl
  have hra : (Zv (XZ i)).isAgg = true := rfl
  refine ZG zs [1, 2] fun K V => ?_
  try simp only [go_sem, seval, e1, e2, e3, e4, g1, g2, g3, g4, g5, g6, hst, Nat.add_assoc, hrs, hrm, hra, b1]
  repeat (first | (refine And.intro ?_ ?_; · first | exact ⟨by omega, .inr trivial, by omega, by omega⟩ | exact ⟨rfl, fun x hx => by rw [List.mem_singleton.1 hx]; exact ⟨hrs, hrm⟩⟩) | refine peel ?_)
  apply V; clear V K
  refine ns ?_
  apply hK3
  refine rg1 zs [1, 2] ?_
  refine ⟨⟨i + 1, by omega, rfl, ?_, fun k hk => by (try simp only [NF]); (repeat first | rw [if_pos rfl] | rw [if_pos trivial] | rw [if_neg (by omega)]); exact hlow k hk, by omega⟩, by omega⟩
  rw [QN ZF (show i < ZF.length from hci), plain_at hci]
  (try simp only [NF]); (repeat first | rw [if_pos rfl] | rw [if_pos trivial] | rw [if_neg (by omega)])
  rw [List.take_of_length_le (by omega), List.map_append]; rfl
 have hci : i = 3 := by have := of_decide_eq_false hb; omega
 subst hci
 refine ax ?_
 apply hK1
 refine rg zs [0] ?_
 refine ar ?_
 exact ⟨_, rfl, hlow,   .osl b1 (by omega) (by simp [ZF]) (by rw [List.take_of_length_le (show ZF.length ≤ 3 from Nat.le_refl 3), List.drop_zero, List.take_of_length_le (show (ZF.map Zv).length ≤ 3 from Nat.le_refl 3)]; exact X4 _ (WE Zv (fun x => kl_rowAV x n) _))⟩
theorem NE61.eqs {P Q : Prop} (g : Imp P Q := by (try simp only [go_sem, seval, List.length_map]); exact NH) : Imp P Q := g
open NE61 NY in
theorem Vf (b : List UInt8) (hb : b.length ≤ 1099511627776) (H : Heap) (n : Nat) : Ret prog 23 [bys b] H n (bys b) H n := by
 have h9 := Qv b hb 0 b.length (Nat.zero_le _) (Nat.le_refl _) H n
 exact kbY
theorem NE62.eqs {P Q : Prop} (g : Imp P Q := by (try simp only [go_sem, seval, hsz, hag, hmo, Ze, Zr, bys, List.length_map, Int.toNat_natCast]); exact NH) : Imp P Q := g
theorem NE62.sd {P : Prop} (g : P := by first | exact ⟨.inr trivial, om, om⟩ | fail) : P := g
set_option maxHeartbeats 1600000 in
open NE62 NZ in
theorem Nt (q : QryE) (hq : q.fine) (H : Heap) (n : Nat) : Ret prog 32 [Ze q] H n (Ze q) H n := by
 have hsz : (Ze q).sz = 10 := ZU q
 have hag : (Ze q).isAgg = true := rfl
 have hmo : (Ze q).memOK = true := rfl
 have h1 := hq.frm
 have h2 := hq.to
 have h3 := hq.pre
 have h4 := hq.token
 have h5 := hq.fams
 refine Ret.fin ?_
 refine fw func32 ntmps32 results32 ?_
 refine rg zs [1, 2] ?_
 refine rk zs [1, 2] fun K V => ?_
 refine ck func23 ((Vf q.frm om _ _)) ?_
 refine kas ?_
 refine rk zs [1, 2] fun K V => ?_
 refine ck func23 ((Vf q.to om _ _)) ?_
 refine kas ?_
 refine rk zs [1, 2] fun K V => ?_
 refine ck func23 ((Vf q.pre om _ _)) ?_
 refine kas ?_
 refine rk zs [1, 2] fun K V => ?_
 refine ck func23 ((Vf q.token om _ _)) ?_
 refine kas ?_
 refine rg zs [1, 2, 3] ?_
 refine rg zs [1, 2] ?_
 refine kal ?_
 exact ⟨_, rfl, fun k hk => oh, .kl (MR q _)⟩
def q0 : QryE := { frm := [], to := [], fams := [], pre := [], time := 0, n := 1, rows := 2, rev := false, whr := [118, 97, 108, 117, 101, 32, 61, 32, 34, 49, 34], token := [] }
def pg0 : PgE := (runE twoF q0 9 (some (ZF, 0))).1
def q1 : QryE := { q0 with token := pg0.token }
def pg1 : PgE := (runE twoF q1 99 (some (ZF.drop 2, 0))).1
theorem st1 : (runE twoF q0 9 (some (ZF, 0))).2.2 = 0 ∧ pg0.rows.length = 2 ∧ (pg0.rows.getD 0 default).cells.length = 1 ∧ pg0.done = false ∧ pg0.token.length ≠ 0 ∧ pg0.token.length ≤ 1000 := by decide +kernel
theorem st2 : ZA q1 = ([114, 50, 0], true, 0) := by decide +kernel
theorem st3 : (runE twoF q1 99 (some (ZF.drop 2, 0))).2.2 = 0 ∧ pg1.rows.length = 1 ∧ pg1.done = true ∧ pg1.token = [] := by decide +kernel
theorem q0_fine : q0.fine := ⟨odc, odc, odc, odc, odc, odc⟩
theorem q1_fine : q1.fine := ⟨odc, odc, odc, odc, odc, by have := st1.2.2.2.2.2; show pg0.token.length ≤ _; omega⟩
theorem Us : Vt ZF := ⟨odc, fun x hx => by simp only [ZF, List.mem_cons, List.not_mem_nil, or_false] at hx; rcases hx with rfl | rfl | rfl <;> refine ⟨odc, odc, fun c hc => ?_⟩ <;> simp only [XZ, List.mem_cons, List.not_mem_nil, or_false] at hc <;> rcases hc with rfl | rfl <;> decide⟩
theorem Vt.drop {l : List RowE} (h : Vt l) (k : Nat) : Vt (l.drop k) := ⟨by rw [List.length_drop]; have := h.1; omega, fun x hx => h.2 x (List.mem_of_mem_drop hx)⟩
theorem cq_two (H : Heap) : Ji prog (.fn (.func 14) [] []) [] H (Zk twoF) := fun m => Zo func14 rfl rfl rfl (YJ H m) ⟨rfl, rfl, rfl⟩
theorem cq_plain (H : Heap) : Ji prog (.fn (.func 17) [] []) [] H (.sl 2 (ZF.map Zv)) := fun m => Zo func17 rfl rfl rfl (WL H m) ⟨rfl, rfl, rfl⟩
theorem ret_start (q : QryE) (hq : q.fine) {r : List UInt8 × Bool × Int} (hr : ZA q = r) {H : Heap} {n : Nat} (hG : GOK 1 1 H n) : Ret prog 24 [Ze q] H n (.tup [bys r.1, .bool r.2.1, .int .i64 r.2.2]) H n := by
 have := V7 hq hG (QL.ro q H)
 unfold XG at this
 rw [hr] at this
 exact this
theorem NE70.eqs {P Q : Prop} (g : Imp P Q := by (try simp only [go_sem, seval, hszq, hagq, hmoq, hszp, hagp, hmop, b1, b2, g1, g2, g3, s2, s3, s4, u2, u3, u4, hn0, pgAV, Zv, bys, Nat.add_assoc, List.length_map, Int.toNat_natCast]); exact NH) : Imp P Q := g
theorem NE70.sd {P : Prop} (g : P := by first | ((repeat' apply And.intro) <;> first | (intro d hd; cases hd; exact cq_two _) | (intro d hd; cases hd; exact cq_plain _) | (intro g; trivial) | (intro g; rfl)) | exact ⟨1, rfl, rfl⟩ | fail) : P := g
set_option maxRecDepth 100000 in
set_option maxHeartbeats 3200000 in
open NE70 NZ in
theorem LA (H : Heap) (n : Nat) (hG : GOK 1 1 H n) : Ret prog 31 [] H n (.bool true) H n := by
 have hszq : ∀ q, (Ze q).sz = 10 := ZU
 have hagq : ∀ q, (Ze q).isAgg = true := fun _ => rfl
 have hmoq : ∀ q, (Ze q).memOK = true := fun _ => rfl
 have hszp : ∀ p, (pgAV p).sz = 3 := fun _ => rfl
 have hagp : ∀ p, (pgAV p).isAgg = true := fun _ => rfl
 have hmop : ∀ p, (pgAV p).memOK = true := fun _ => rfl
 have hg1 := hG.gek
 have hg2 := hG.get
 obtain ⟨s1, s2, s3, s4, s5, s6⟩ := st1
 obtain ⟨u1, u2, u3, u4⟩ := st3
 have hn0 : nth (pg0.rows.map Zv) 0 = Zv (pg0.rows.getD 0 default) := ZC Zv _ 0 om
 have b1 := hG
 have b2 := hG
 have g1 : (n = n + 1) = False := osi
 have g2 : (n = n + 2) = False := osi
 have g3 := hG
 refine Ret.fin ?_
 refine fw func31 ntmps31 results31 ?_
 refine rg zs [] ?_
 refine rg zs [1] ?_
 refine Xo n (els' := [Ze q0]) (NG _ _ _) ⟨Wk.agg ⟨Wk.nilsl 1, Wk.nilsl 1, Wk.nilsl 1, Wk.nilsl 1, .refl _, .refl _, .refl _, .refl _, .refl _, Wk.nilsl 1, trivial⟩, trivial⟩ ?_
 refine awp_seq_j (fun T' H' n' => ∃ kp : Nat, T' = tl [(1, .loc n 0 0 0 []), (2, .loc kp 0 0 0 []), (3, .int .i64 0)] ∧ H' n = some (.arr 0 10 [Ze q0]) ∧ H' kp = some (.arr 0 3 [pgAV pg0]) ∧ n < kp ∧ kp < n' ∧ ∀ k, k < n → H' k = H k) ?_ ?_
 ·refine awp_tree1 rfl zs [1, 2, 3] 10 [.c, .q, .c, .q, .w [1], .q, .w [], .m, .q, .q, .w [], .w [9], .q] [0, 1, 2, 3, 4, 5, 6, 7, 8, 9] [11, 12] (.w [0, 1, 2, 3, 5, 8, 9]) [(4, .w [0, 1, 2, 3]), (6, .w [0, 1, 2, 3, 5])] [0, 1, 2, 3, 4, 5, 6, 7, 8, 9, 0, 10, 11] odc (by kernel_rfl) (fun _ _ _ _ _ h => h) fun K V => ?_
  refine nz ?_
  refine cq func14 (fun _ n => (YJ _ _)) ?_
  refine cq func17 (fun _ n => (WL _ _)) ?_
  refine And.intro ?_ ?_
  ·refine nz ?_
   refine Zn (args' := [Zk twoF, Ze q0, .int .i64 9, .iface 52 (.loc _ 0 0 0 [])]) func18 rfl rfl rfl ((YK twoF odc q0 q0_fine 9 ZF 0 Us _ ?_ ?_)) ?_ ?_
   ·exact hG.on (fun k hk => oh) om
   ·refine ohx ?_; rfl
   rotate_left
   ·exact kb4
   intro rr H1 n1 hc
   obtain ⟨hn1, hlo1, hr⟩ := hc
   rw [s1, show (runE twoF q0 9 (some (ZF, 0))).1 = pg0 from rfl] at hr
   cases hr
   have g3 : (n = n1) = False := oz
   have b2 : H1 n = some (.arr 0 10 [Ze q0]) := (hlo1 _ om om).trans oh
   have b1 : H1 (n + 1) = some (.arr 0 3 [.agg [.nilsl, .nilsl, .bool false]]) := (hlo1 _ om om).trans oh
   exact kak
  refine nz ?_
  refine And.intro ?_ ?_
  ·refine nz ?_
   refine Zn (args' := [Zk twoF, Ze q0, .int .i64 9, .iface 52 (.loc _ 0 0 0 [])]) func18 rfl rfl rfl ((YK twoF odc q0 q0_fine 9 ZF 0 Us _ ?_ ?_)) ?_ ?_
   ·exact hG.on (fun k hk => oh) om
   ·refine ohx ?_; rfl
   rotate_left
   ·exact kb4
   intro rr H1 n1 hc
   obtain ⟨hn1, hlo1, hr⟩ := hc
   rw [s1, show (runE twoF q0 9 (some (ZF, 0))).1 = pg0 from rfl] at hr
   cases hr
   have g3 : (n = n1) = False := oz
   have b2 : H1 n = some (.arr 0 10 [Ze q0]) := (hlo1 _ om om).trans oh
   have b1 : H1 (n + 2) = some (.arr 0 3 [.agg [.nilsl, .nilsl, .bool false]]) := (hlo1 _ om om).trans oh
   exact kak
  refine nz ?_
  refine Zn (args' := [Zk twoF, Ze q0, .int .i64 9, .iface 52 (.loc _ 0 0 0 [])]) func18 rfl rfl rfl ((YK twoF odc q0 q0_fine 9 ZF 0 Us _ ?_ ?_)) ?_ ?_
  ·exact hG.on (fun k hk => oh) om
  ·refine ohx ?_; rfl
  rotate_left
  ·exact kb4
  intro rr H1 n1 hc
  obtain ⟨hn1, hlo1, hr⟩ := hc
  rw [s1, show (runE twoF q0 9 (some (ZF, 0))).1 = pg0 from rfl] at hr
  cases hr
  have g3 : (n = n1) = False := oz
  have b2 : H1 n = some (.arr 0 10 [Ze q0]) := (hlo1 _ om om).trans oh
  exact kak
 rintro T9 H1 n1 ⟨kp, rfl, b2, b1, hkp, hkn, hlow1⟩
 refine Za fun K1 hK1 => ?_
 refine rc zs [1, 2, 45] func20 ((Xm _ _ _)) ?_
 refine Zb ?_ ?_ <;> intro hb
 ·exact absurd hb (by simp [s5])
 refine kay ?_
 refine rg zs [1, 2] ?_
 refine rk zs [1, 2, 4, 5, 6] fun K V => ?_
 refine ck func24 ((ret_start q1 q1_fine st2 (hG.on (fun k hk => ohx (hlow1 k hk)) om))) ?_
 refine kas ?_
 refine Za fun K2 hK2 => ?_
 refine Zf zs [1, 2, 67] fun K V => ?_
 refine kaY ?_
 repeat refine peel ?_
 refine Zo func20 rfl rfl rfl ((Xm _ _ _)) ?_
 refine kaY ?_
 repeat (first | (refine And.intro ?_ ?_; · first | exact ⟨rfl, fun x hx => by simp only [List.mem_cons, List.not_mem_nil, or_false] at hx; rcases hx with rfl | rfl | rfl <;> exact ⟨rfl, rfl⟩⟩) | refine peel ?_)
 refine Yy func26 rfl rfl rfl (fun _ => (X9 [114, 50, 0] [114, 50, 0] _ _)) ?_
 refine kaY ?_
 refine kad ?_
 refine Zb ?_ ?_ <;> intro hb
 ·exact kaJ
 refine kaQ ?_
 refine ZV (fun H' n' => H' n = some (.arr 0 10 [Ze q1]) ∧ H' kp = some (.arr 0 3 [pgAV pg0]) ∧ (∀ k, k < n → H' k = H k) ∧ n' = n1) ⟨ohr, ohx b1, fun k hk => ohx (hlow1 k hk), rfl⟩ fun H2 n2 ⟨b2, b1, hlow2, hn2⟩ => ?_
 subst hn2
 have f9 : (n = n2) = False := oz
 have hpl : ZF.length = 3 := rfl
 have hS2 := Vt.drop Us 2
 refine XJ rfl zs [2, 3] [.c, .q, .c, .q, .q, .w [1], .q, .w [], .m, .q, .q, .w [10], .q] [0, 1, 2, 3, 4, 5, 6, 7, 8, 9, 10, 11, 12] [0, 1, 2, 3, 4, 5, 6, 7, 8, 9, 10, 11, 12] (by kernel_rfl) (fun _ _ _ _ _ h => h) fun K V => ?_
 refine kao ?_
 repeat refine peel ?_
 refine ZL func14 rfl rfl rfl (fun _ n => (YJ _ _)) ?_
 refine kao ?_
 repeat refine peel ?_
 refine ZL func17 rfl rfl rfl (fun _ n => (WL _ _)) ?_
 refine kao ?_
 repeat (first | (refine And.intro ?_ ?_; · first | exact ⟨1, rfl, rfl⟩) | refine peel ?_)
 refine cK func18 ((YK (H := H2.put n2 (some (srcN (ZF.drop 2) 0))) (n := n2 + 1) twoF odc q1 q1_fine 99 (ZF.drop 2) 0 hS2 n2 (hG.on (fun k hk => ohx (hlow2 k hk)) om) oh)) ?_ ?_
 ·exact kb4
 intro rr H3 n3 hc
 obtain ⟨hn3, hlo3, hr⟩ := hc
 rw [u1, show (runE twoF q1 99 (some (ZF.drop 2, 0))).1 = pg1 from rfl] at hr
 cases hr
 have b1 : H3 kp = some (.arr 0 3 [pgAV pg0]) := (hlo3 _ om om).trans (ohx b1)
 have hlow3 : ∀ k, k < n → H3 k = H k := fun k hk => (hlo3 k om om).trans (ohx (hlow2 k hk))
 refine kao ?_
 refine kad ?_
 refine rc zs [0] func20 ((Xm _ _ _)) ?_
 refine ar ?_
 refine ⟨_, rfl, fun k hk => ohx (hlow3 k hk), Frz.eq osi trivial⟩
def Qi (q : QryE) : QryE := { q with token := [], rows := 1000 }
def qBare (q : QryE) : QryE := { Qi q with fams := [], whr := [] }
def qZero (b : Bool) : QryE := { frm := [], to := [], fams := [], pre := [], time := 0, n := 1, rows := 1000, rev := b, whr := [], token := [] }
def VB (fs : List Fml) (q : QryE) : QryE :=
 if qcE fs (Qi q) = 0 then Qi q else if qcE fs (qBare q) = 0 then qBare q else qZero q.rev
theorem UI {q : QryE} (h : q.fine) : (Qi q).fine := ⟨h.frm, h.to, h.fams, h.pre, h.whr, Nat.zero_le _⟩
theorem Jl {q : QryE} (h : q.fine) : (qBare q).fine := ⟨h.frm, h.to, Nat.zero_le _, h.pre, Nat.zero_le _, Nat.zero_le _⟩
theorem qZero_fine (b : Bool) : (qZero b).fine := ⟨Nat.zero_le _, Nat.zero_le _, Nat.zero_le _, Nat.zero_le _, Nat.zero_le _, Nat.zero_le _⟩
theorem VA {fs : List Fml} {q : QryE} (h : q.fine) : (VB fs q).fine := by
 unfold VB
 split
 ·exact UI h
 ·split
  ·exact Jl h
  ·exact qZero_fine _
theorem WP (fs : List Fml) (q : QryE) : (VB fs q).token = [] := by unfold VB; split; rfl; split <;> rfl
theorem qZero_good {fs : List Fml} (h : Zw fs = 0) (b : Bool) : qcE fs (qZero b) = 0 := by
 unfold qcE
 rw [if_neg (by simp [h]), if_neg (by cases b <;> simp [Yu, Qo, UO, U1, qZero]), if_neg (by rintro ⟨a, _⟩; simp [qZero] at a)]
 rfl
theorem MU {fs : List Fml} (h : Zw fs = 0) (q : QryE) : qcE fs (VB fs q) = 0 := by
 unfold VB
 split
 ·assumption
 ·split
  ·assumption
  ·exact qZero_good h _
theorem wk_qa {q : QryE} {f t m p k : AV} (hf : Wk f (bys q.frm)) (ht : Wk t (bys q.to)) (hm : Wk m (Zr q.fams)) (hp : Wk p (bys q.pre)) (hk : Wk k (bys q.token)) : WkL [qaX q f t m p k] [Ze q] :=
 ⟨Wk.agg ⟨hf, ht, hm, hp, .refl _, .refl _, .refl _, .refl _, .refl _, hk, trivial⟩, trivial⟩
theorem NT40.eqs {P Q : Prop} (g : Imp P Q := by (try simp only [go_sem, seval, hszs, hags, hmos, hnum, hnua, hnum2, hszq, hagq, hmoq, f1, f2, f3, f4, f5, f6, b1, b2, b3]); exact NH) : Imp P Q := g
theorem NT40.inz {P Q : Prop} (g : Imp P Q := by refine Imp.up eqs ?_; (repeat refine Imp.pl ?_); exact NH) : Imp P Q := g
set_option maxHeartbeats 3200000 in
open NT40 in
theorem UW (fs : List Fml) (hfs : fs.length ≤ 1048576) (q : QryE) (hq : q.fine) {H : Heap} {n : Nat} : Ret prog 13 [Zk fs, Ze q] H n (Ze (VB fs q)) H n := by
 have hszs : (Zk fs).sz = 1 := rfl
 have hags : (Zk fs).isAgg = true := rfl
 have hmos : (Zk fs).memOK = true := rfl
 have hszq : ∀ q, (Ze q).sz = 10 := ZU
 have hagq : ∀ q, (Ze q).isAgg = true := fun _ => rfl
 have hmoq : ∀ q, (Ze q).memOK = true := fun _ => rfl
 have hnum : ∀ l, (Zr l).sz = 1 := fun _ => rfl
 have hnua : ∀ l, (Zr l).isAgg = false := fun _ => rfl
 have hnum2 : ∀ l, (Zr l).memOK = true := fun _ => rfl
 have f1 : (n = n + 1) = False := by simp
 have f2 : (n + 1 = n) = False := by simp
 have f3 : (n = n + 2) = False := by simp
 have f4 : (n + 1 = n + 2) = False := by simp
 have f5 : (n + 2 = n) = False := by simp
 have f6 : (n + 2 = n + 1) = False := by simp
 have b1 := hszs
 have b2 := hszs
 have b3 := hszs
 obtain ⟨z, hz⟩ : ∃ z, z = VB fs q := ⟨_, rfl⟩
 rw [← hz]
 unfold VB at hz
 refine Ret.fin ?_
 refine fw func13 ntmps13 results13 ?_
 refine rg zs [2, 3, 4] ?_
 refine rk zs [2, 3, 4] fun K V => ?_
 refine ck func32 ((Nt q hq _ _)) ?_
 apply V; clear V K
 refine Zf zs [2, 3, 4] fun K V => ?_
 try simp only [go_sem, seval, hszs, hags, hmos, hnum, hnua, hnum2, hszq, hagq, hmoq, f1, f2, f3, f4, f5, f6, b1, b2, b3, Ze]
 repeat refine peel ?_
 apply V; clear V K
 refine Zf zs [2, 3, 4] fun K V => ?_
 try simp only [go_sem, seval, hszs, hags, hmos, hnum, hnua, hnum2, hszq, hagq, hmoq, f1, f2, f3, f4, f5, f6, b1, b2, b3, Ze]
 repeat refine peel ?_
 apply V; clear V K
 refine Z8 [2, 3, 4] (fun T' H' n' => ∃ (a : AV) (q2 : QryE) (o : AV), T' = tl [(2, .loc n 0 0 0 []), (3, .loc (n + 1) 0 0 0 []), (4, .loc (n + 2) 0 0 0 [])] ∧ H' n = some (.arr 0 1 [Zk fs]) ∧ H' (n + 1) = some (.arr 0 10 [qaX q2 (bys q2.frm) (bys q2.to) a (bys q2.pre) (bys q2.token)]) ∧ Wk a (Zr q2.fams) ∧ q2.fine ∧ (z = if qcE fs q2 = 0 then q2 else qZero q.rev) ∧ q2.rev = q.rev ∧ H' (n + 2) = some (.arr 0 10 [o]) ∧ o.sz = 10 ∧ (∀ k, k < n → H' k = H k) ∧ n' = n + 3) ?_ ?_
 ·refine Xo (n + 1) (els := [qaX (Qi q) (bys q.frm) (bys q.to) (Zr q.fams) (bys q.pre) .nilsl]) (els' := [Ze (Qi q)]) (by first | ((try simp only [NF]); (repeat first | rw [if_pos rfl] | rw [if_pos trivial] | rw [if_neg (by omega)]); done) | ((try simp only [NF]); (repeat first | rw [if_pos rfl] | rw [if_pos trivial] | rw [if_neg (by omega)]); rfl)) (wk_qa (.refl _) (.refl _) (.refl _) (.refl _) (.nilsl 1)) ?_
  refine rk zs [2, 3, 4, 12] fun K V => ?_
  refine ck func38 ((Ub fs hfs (Qi q) (UI hq) _ _)) ?_
  apply V; clear V K
  refine Zb ?_ ?_ <;> intro hb
  ·have h1 : ¬ qcE fs (Qi q) = 0 := by simpa using hb
   rw [if_neg h1] at hz
   refine Zf zs [2, 3, 4] fun K V => ?_
   try simp only [go_sem, seval, hszs, hags, hmos, hnum, hnua, hnum2, hszq, hagq, hmoq, f1, f2, f3, f4, f5, f6, b1, b2, b3, Ze, Qi]
   repeat refine peel ?_
   apply V; clear V K
   refine rg1 zs [2, 3, 4] ?_
   refine ns ?_
   first
   | (refine ⟨.nilsl, qBare q, .agg [.nilsl, .nilsl, .nilsl, .nilsl, .int .i64 0, .int .i64 0, .int .i64 0, .bool false, .str [], .nilsl], ?_⟩
      (repeat' apply And.intro) <;> first | rfl | exact .refl _ | exact .nilsl 1 | exact (Wk.nilsl 1).2 | exact fun _ _ _ h => h | exact UI hq | exact Jl hq | exact hz | (rw [if_pos h1]; exact hz) | (intro k hk; (try simp only [NF]); (repeat first | rw [if_pos rfl] | rw [if_pos trivial] | rw [if_neg (by omega)]); done) | ((try simp only [NF]); (repeat first | rw [if_pos rfl] | rw [if_pos trivial] | rw [if_neg (by omega)]); first | done | rfl))
  have h1 : qcE fs (Qi q) = 0 := by simpa using hb
  rw [if_pos h1] at hz
  refine ak ?_
  refine ns ?_
  first
  | (refine ⟨Zr q.fams, Qi q, .agg [.nilsl, .nilsl, .nilsl, .nilsl, .int .i64 0, .int .i64 0, .int .i64 0, .bool false, .str [], .nilsl], ?_⟩; have h7 := h1
     (repeat' apply And.intro) <;> first | rfl | exact .refl _ | exact .nilsl 1 | exact (Wk.nilsl 1).2 | exact fun _ _ _ h => h | exact UI hq | exact Jl hq | exact hz | (rw [if_pos h1]; exact hz) | (intro k hk; (try simp only [NF]); (repeat first | rw [if_pos rfl] | rw [if_pos trivial] | rw [if_neg (by omega)]); done) | ((try simp only [NF]); (repeat first | rw [if_pos rfl] | rw [if_pos trivial] | rw [if_neg (by omega)]); first | done | rfl))
 rintro T8 H8 n8 ⟨a, q2, o, rfl, b1, b2, hwk, hq2, hz2, hrv, b3, ho, hlow, rfl⟩
 refine Za fun K1 hK1 => ?_
 refine Xo (n + 1) (els' := [Ze q2]) b2 (wk_qa (.refl _) (.refl _) hwk (.refl _) (.refl _)) ?_
 refine rk zs [3, 4, 18] fun K V => ?_
 refine ck func38 ((Ub fs hfs q2 hq2 _ _)) ?_
 apply V; clear V K
 refine Zb ?_ ?_ <;> intro hb
 ·have h2 : ¬ qcE fs q2 = 0 := by simpa using hb
  rw [if_neg h2] at hz2
  refine Zf zs [4] fun K V => ?_
  try simp only [go_sem, seval, hszs, hags, hmos, hnum, hnua, hnum2, hszq, hagq, hmoq, f1, f2, f3, f4, f5, f6, b1, b2, b3, Ze, b3, ho, hrv]
  repeat refine peel ?_
  apply V; clear V K
  refine ar ?_
  rw [hz2]
  exact ⟨_, rfl, fun k hk => by (try simp only [NF]); (repeat first | rw [if_pos rfl] | rw [if_pos trivial] | rw [if_neg (by omega)]); exact hlow k hk, .agg (.cons .nilsl (.cons .nilsl (.cons .nilsl (.cons .nilsl (.cons (.kl trivial) (.cons (.kl trivial) (.cons (.kl trivial) (.cons (.kl trivial) (.cons (.kl trivial) (.cons .nilsl .nil))))))))))⟩
 have h2 : qcE fs q2 = 0 := by simpa using hb
 rw [if_pos h2] at hz2
 refine ak ?_
 apply hK1
 refine rg zs [4] ?_
 refine ar ?_
 rw [hz2]
 exact ⟨_, rfl, fun k hk => by (try simp only [NF]); (repeat first | rw [if_pos rfl] | rw [if_pos trivial] | rw [if_neg (by omega)]); exact hlow k hk, .kl (MR _ _)⟩
theorem NT41.eqs {P Q : Prop} (g : Imp P Q := by (try simp only [go_sem, seval, hnum, hnua, hnum2, hszq, hagq, hmoq, f1, f2, Ze]); exact NH) : Imp P Q := g
theorem NT41.inz {P Q : Prop} (g : Imp P Q := by refine Imp.up eqs ?_; (repeat refine Imp.pl ?_); exact NH) : Imp P Q := g
open NT41 in
theorem Je (q : QryE) (H : Heap) (n : Nat) : Ret prog 45 [Ze q] H n (Ze { q with rows := 0, token := [] }) H n := by
 have hszq : ∀ q, (Ze q).sz = 10 := ZU
 have hagq : ∀ q, (Ze q).isAgg = true := fun _ => rfl
 have hmoq : ∀ q, (Ze q).memOK = true := fun _ => rfl
 have hnum : ∀ l, (Zr l).sz = 1 := fun _ => rfl
 have hnua : ∀ l, (Zr l).isAgg = false := fun _ => rfl
 have hnum2 : ∀ l, (Zr l).memOK = true := fun _ => rfl
 have f1 : (n = n + 1) = False := by simp
 have f2 : (n + 1 = n) = False := by simp
 refine Ret.fin ?_
 refine fw func45 ntmps45 results45 ?_
 refine rg zs [1, 2] ?_
 refine rg zs [1, 2] ?_
 refine rg zs [1, 2] ?_
 refine Xo n (els := [qaX { q with rows := 0, token := [] } (bys q.frm) (bys q.to) (Zr q.fams) (bys q.pre) .nilsl]) (els' := [Ze { q with rows := 0, token := [] }]) (by first | ((try simp only [NF]); (repeat first | rw [if_pos rfl] | rw [if_pos trivial] | rw [if_neg (by omega)]); done) | ((try simp only [NF]); (repeat first | rw [if_pos rfl] | rw [if_pos trivial] | rw [if_neg (by omega)]); rfl)) (wk_qa (.refl _) (.refl _) (.refl _) (.refl _) (.nilsl 1)) ?_
 refine rg zs [2] ?_
 refine ar ?_
 exact ⟨_, rfl, fun k hk => by (try simp only [NF]); (repeat first | rw [if_pos rfl] | rw [if_pos trivial] | rw [if_neg (by omega)]), .kl (MR { q with rows := 0, token := [] } _)⟩
theorem dirL_take {q : QryE} {l : List RowE} {i : Nat} (h : i < l.length) (p : RowE → Bool) : ((dirL q l).take (i + 1)).filter p = ((dirL q l).take i).filter p ++ (if p ((dirL q l).getD i default) then [(dirL q l).getD i default] else []) := by
 have hl : (dirL q l).length = l.length := by unfold dirL; split <;> simp
 rw [List.take_succ_eq_append_getElem om, List.filter_append]
 congr 1
 have e : (dirL q l).getD i default = (dirL q l)[i]'om := by simp [List.getD, hl, h]
 rw [e]
 simp [List.filter_cons]
theorem dirL_at {q : QryE} {l : List RowE} {i : Nat} (h : i < l.length) : (dirL q l).getD i default = if q.rev then l.getD (l.length - 1 - i) default else l.getD i default := by
 unfold dirL
 cases q.rev
 ·rfl
 ·simp only [if_true]
  simp [List.getD, List.getElem?_reverse h]
theorem NT42.eqs {P Q : Prop} (g : Imp P Q := by (try simp only [go_sem, seval, hnum, hnua, hnum2, hszq, hagq, hmoq, hszr, hagr, hmor, b1, b2, hnth, hn2, e1, e2, e3, g1, g2, hse, XG, Nat.add_assoc, List.length_map, Int.toNat_natCast, Yf]); exact NH) : Imp P Q := g
theorem NT42.sd {P : Prop} (g : P := by first | (intro _ h8 h9; rw [h8, h9]; rfl) | (intro _ h8; rw [h8]; rfl) | exact ⟨om, om⟩ | exact ⟨rfl, by (simp [AV.sz, AV.szs, AV.memOK, hszr, hmor]; first | done | fail)⟩ | exact ⟨Nat.le_refl _, .inr trivial, om, om⟩ | fail) : P := g
set_option maxHeartbeats 6400000 in
open NT42 NZ in
theorem c_law13_from (q : QryE) (hq : q.fine) (hr0 : (ZR q).2.2 = 0) (l : List RowE) (hl : Vt l) {H : Heap} {n : Nat} (hG : GOK 1 1 H n) : Ret prog 15 [Ze q, .sl 2 (l.map Zv)] H n (.tup [.sl 2 ((WQ q l).map Zv), .bool true]) H n := by
 have hszq : ∀ q, (Ze q).sz = 10 := ZU
 have hagq : ∀ q, (Ze q).isAgg = true := fun _ => rfl
 have hmoq : ∀ q, (Ze q).memOK = true := fun _ => rfl
 have hnum : ∀ l, (Zr l).sz = 1 := fun _ => rfl
 have hnua : ∀ l, (Zr l).isAgg = false := fun _ => rfl
 have hnum2 : ∀ l, (Zr l).memOK = true := fun _ => rfl
 have hszr : ∀ r, (Zv r).sz = 2 := Mk
 have hagr : ∀ r, (Zv r).isAgg = true := fun _ => rfl
 have hmor : ∀ r, (Zv r).memOK = true := fun _ => rfl
 have hls := hl.1
 have hse : (ZA q).2.2 = 0 := by unfold ZA; rw [if_neg (by simp [hr0])]; split; rfl; split <;> rfl
 have b1 := hls
 have b2 := hls
 have hnth := hls
 have hn2 := hls
 have e1 := hls
 have e2 := hls
 have e3 := hls
 have g1 := hls
 have g2 := hls
 have hge : ∀ a b : List UInt8, (!Op.bytesLess a b) = decide (0 ≤ Lib.compareBytes a b) := fun a b => by
   rw [(Vj a b).2, Bool.eq_iff_iff]; simp
 have hlt : ∀ a b : List UInt8, Op.bytesLess a b = decide (Lib.compareBytes a b < 0) := fun a b => (Vj a b).2
 obtain ⟨F, hF⟩ : ∃ F : Nat → List RowE, F = fun i => ((dirL q l).take i).filter fun x => XN q (ZA q).1 (ZA q).2.1 x.row := ⟨_, rfl⟩
 have hFl : ∀ i, (F i).length ≤ i := fun i => by rw [hF]; exact Nat.le_trans (List.length_filter_le _ _) (by rw [List.length_take]; omega)
 refine Ret.fin ?_
 refine fw func15 ntmps15 results15 ?_
 refine rg zs [1, 2] ?_
 refine rk zs [1, 2, 6, 7, 8] fun K V => ?_
 refine ck func24 ((V7 hq (hG.on (fun k hk => oh) om) (QL.ro q _))) ?_
 apply V; clear V K
 refine Za fun K1 hK1 => ?_
 refine rc zs [1, 2, 6, 7, 22] func20 ((Xm _ _ _)) ?_
 refine Zb ?_ ?_ <;> intro hb
 ·exact absurd hb osi
 refine ak ?_
 apply hK1
 refine rg zs [1, 2, 6, 7, 9] ?_
 refine Za fun K2 hK2 => ?_
 refine rg zs [1, 2, 6, 7, 9, 10] ?_
 refine ZM ?_
 refine Yk 9 2 rfl ?_
 refine YN [1, 2, 6, 7, 9, 10] ?_
 refine ns ?_
 refine Zp (fun T' H' n' => ∃ (i ver : Nat), i ≤ l.length ∧ T' = tl [(1, .sl 2 (l.map Zv)), (2, .loc n 0 0 0 []), (6, bys (ZA q).1), (7, .bool (ZA q).2.1), (9, .osl (n + 1) ver 0 (F i).length), (10, .int .i64 i)] ∧ H' n = some (.arr 0 10 [Ze q]) ∧ H' (n + 1) = some (.arr ver 2 ((F i).map Zv)) ∧ (∀ k, k < n → H' k = H k) ∧ n + 2 ≤ n') (fun T' _ _ => l.length - iv (T' 10)) ?_ ?_
 ·exact ⟨0, 0, Nat.zero_le _, by rw [hF]; rfl, oh, by rw [hF]; refine ohx ?_; rfl, fun k hk => oh, om⟩
 rintro T1 H1 n1 ⟨i, ver, hi, rfl, b1, b2, hlow, hn1⟩
 refine Za fun K3 hK3 => ?_
 refine rg zs [1, 2, 6, 7, 9, 10, 26] ?_
 refine Zb ?_ ?_ <;> intro hb
 ·have hci : i < l.length := ott
  have hnth : nth (l.map Zv) i = Zv (l.getD i default) := ZC Zv l i hci
  have hn2 : nth (l.map Zv) (l.length - 1 - i) = Zv (l.getD (l.length - 1 - i) default) := ZC Zv l _ om
  have e1 : IntKind.i64.wrap ((i : Int) + 1) = ((i + 1 : Nat) : Int) := w1 om
  have e2 : IntKind.i64.wrap ((l.length : Int) - 1) = ((l.length - 1 : Nat) : Int) := by rw [w64 om om]; omega
  have e3 : IntKind.i64.wrap (((l.length - 1 : Nat) : Int) - (i : Int)) = ((l.length - 1 - i : Nat) : Int) := by rw [w64 om om]; omega
  have g1 : (n = n1) = False := oz
  have g2 : (n + 1 = n1) = False := oz
  have hst := dirL_take (q := q) hci (fun x => XN q (ZA q).1 (ZA q).2.1 x.row)
  have hF1 : F (i + 1) = F i ++ (if XN q (ZA q).1 (ZA q).2.1 ((dirL q l).getD i default).row then [(dirL q l).getD i default] else []) := by rw [hF]; exact hst
  have hda := dirL_at (q := q) hci
  have hFi := hFl i
  obtain ⟨x, hx⟩ : ∃ x, x = (dirL q l).getD i default := ⟨_, rfl⟩
  rw [← hx] at hF1 hda
  refine ak ?_
  apply hK3
  refine Z8 [1, 2, 6, 7, 9, 10] (fun T' H' n' => ∃ ver, T' = tl [(1, .sl 2 (l.map Zv)), (2, .loc n 0 0 0 []), (6, bys (ZA q).1), (7, .bool (ZA q).2.1), (9, .osl (n + 1) ver 0 (F (i + 1)).length), (10, .int .i64 i)] ∧ H' n = some (.arr 0 10 [Ze q]) ∧ H' (n + 1) = some (.arr ver 2 ((F (i + 1)).map Zv)) ∧ (∀ k, k < n → H' k = H k) ∧ n + 2 ≤ n') ?_ ?_
  ·refine ZM ?_
   refine rg zs [1, 2, 6, 7, 9, 10, 11] ?_
   refine Z8 [1, 2, 6, 7, 9, 10, 11] (fun T' H' n' => T' = tl [(1, .sl 2 (l.map Zv)), (2, .loc n 0 0 0 []), (6, bys (ZA q).1), (7, .bool (ZA q).2.1), (9, .osl (n + 1) ver 0 (F i).length), (10, .int .i64 i), (11, .loc n1 0 0 0 [])] ∧ H' = H1.put n1 (some (.arr 0 2 [Zv x])) ∧ n' = n1 + 1) ?_ ?_
   ·refine Zf zs [1, 2, 6, 7, 9, 10, 11, 34] fun K V => ?_
    try simp only [go_sem, seval, hnum, hnua, hnum2, hszq, hagq, hmoq, hszr, hagr, hmor, b1, b2, hnth, hn2, e1, e2, e3, g1, g2, hse, XG, Nat.add_assoc, List.length_map, Int.toNat_natCast, Yf, Ze]
    refine kad ?_
    refine Zb ?_ ?_ <;> intro hb
    ·rw [if_pos hb] at hda
     refine rg1 zs [1, 2, 6, 7, 9, 10, 11] ?_
     refine ns ?_
     rw [hda]
    rw [if_neg (by simp [hb])] at hda
    refine ak ?_
    refine ns ?_
    rw [hda]
   rintro T8 H8 n8 ⟨rfl, rfl, rfl⟩
   refine Zf zs [1, 2, 6, 7, 9, 10, 11, 12] fun K V => ?_
   try simp only [go_sem, seval, hnum, hnua, hnum2, hszq, hagq, hmoq, hszr, hagr, hmor, b1, b2, hnth, hn2, e1, e2, e3, g1, g2, hse, XG, Nat.add_assoc, List.length_map, Int.toNat_natCast, Yf, Ze, Zv, bys]
   repeat (first | (refine And.intro ?_ ?_; · first | (intro _; exact Y1 _) | (intro _ h8; rw [h8]; rfl)) | refine peel ?_)
   apply V; clear V K
   refine Zf zs [1, 2, 6, 7, 9, 10, 11, 12, 13] fun K V => ?_
   try simp only [go_sem, seval, hnum, hnua, hnum2, hszq, hagq, hmoq, hszr, hagr, hmor, b1, b2, hnth, hn2, e1, e2, e3, g1, g2, hse, XG, Nat.add_assoc, List.length_map, Int.toNat_natCast, Yf, Ze, Zv, bys]
   repeat (first | (refine And.intro ?_ ?_; · first | (intro _; exact Y1 _) | (intro _ h8; rw [h8]; rfl)) | refine peel ?_)
   apply V; clear V K
   refine rg zs [1, 2, 6, 7, 9, 10, 11, 73] ?_
   refine Zb ?_ ?_ <;> intro hb
   ·have hyes : XN q (ZA q).1 (ZA q).2.1 x.row = true := by unfold XN; have h9 := hb; clear hb; revert h9; cases (ZA q).2.1 <;> cases q.rev <;> intro h9 <;> first | rfl | (simp [hlt] at h9 ⊢; omega) | (simp at h9; done)
    refine rg1 zs [1, 2, 6, 7, 9, 10] ?_
    refine ns ?_
    first
    | (rw [hF1, hyes, if_pos rfl]
       rw [List.take_of_length_le (show ((F i).map Zv).length ≤ (F i).length by simp)]
       refine ⟨ver + 1, ?_⟩; (repeat' apply And.intro) <;> first | rfl | (rw [List.length_append]; rfl) | ((try simp only [NF]); (repeat first | rw [if_pos rfl] | rw [if_pos trivial] | rw [if_neg om]); first | done | exact b1 | exact b2 | (rw [List.map_append]; rfl)) | (intro k hk; refine ohx ?_; exact hlow k hk) | omega)
   have hno : XN q (ZA q).1 (ZA q).2.1 x.row = false := by unfold XN; have h9 := hb; clear hb; revert h9; cases (ZA q).2.1 <;> cases q.rev <;> intro h9 <;> first | rfl | (simp [hlt] at h9 ⊢; omega) | (simp at h9; done)
   refine ak ?_
   refine ns ?_
   first
   | (rw [hF1, hno, if_neg osi, List.append_nil]
      refine ⟨ver, ?_⟩; (repeat' apply And.intro) <;> first | rfl | (rw [List.length_append]; rfl) | ((try simp only [NF]); (repeat first | rw [if_pos rfl] | rw [if_pos trivial] | rw [if_neg om]); first | done | exact b1 | exact b2 | (rw [List.map_append]; rfl)) | (intro k hk; refine ohx ?_; exact hlow k hk) | omega)
  rintro T3 H3 n3 ⟨ver3, rfl, b1, b2, hlow, hn3⟩
  refine rg1 zs [1, 2, 6, 7, 9, 10] ?_
  exact ⟨⟨i + 1, ver3, om, rfl, rfl, hlow, hn3⟩, om⟩
 have hci : i = l.length := otf
 refine ax ?_
 apply hK2
 refine rg zs [4, 5] ?_
 refine ar ?_
 subst hci
 have hFe : F l.length = WQ q l := by rw [hF]; unfold WQ; show List.filter _ (List.take l.length (dirL q l)) = _; rw [List.take_of_length_le (by unfold dirL; split <;> simp)]
 rw [hFe] at b2 ⊢
 exact ⟨_, rfl, hlow, .tup (.cons (.osl b2 om osi (by rw [List.drop_zero, List.take_of_length_le osi]; exact X4 _ (WE Zv (fun r => kl_row r _) _))) (.cons (.kl trivial) .nil))⟩
end Go.Proofs.YtkmkbndcekklmaaGreatDoor
set_option maxRecDepth 10000
namespace Go.Proofs.YtkmkbndcekklmaaGreatDoor
open Go Go.Sx Go.Rt Go.Proofs
theorem UD : Zw twoF = 0 := by decide +kernel
theorem plain_up : upL ZF := by unfold upL; decide +kernel
theorem plain_good : ∀ x ∈ ZF, QR twoF.length x := fun x hx => by
 simp only [ZF, List.mem_cons, List.not_mem_nil, or_false] at hx
 unfold QR
 rcases hx with rfl | rfl | rfl <;> decide +kernel
theorem qcE_parts {fs : List Fml} {q : QryE} (h : qcE fs q = 0) : Zw fs = 0 ∧ Yu fs.length q = true ∧ ¬ (0 < q.whr.length ∧ (YP fs q.whr).2.1 ≠ 0) ∧ (ZR q).2.2 = 0 := by
 unfold qcE at h
 split at h
 ·rename_i a; exact absurd h a
 rename_i a
 split at h
 ·exact absurd h odc
 rename_i b
 split at h
 ·rename_i c; exact absurd h c.2
 rename_i c
 exact ⟨by simpa using a, by simpa using b, c, h⟩
theorem qcE_of {fs : List Fml} {q : QryE} (h1 : Zw fs = 0) (h2 : Yu fs.length q = true) (h3 : ¬ (0 < q.whr.length ∧ (YP fs q.whr).2.1 ≠ 0)) : qcE fs q = (ZR q).2.2 := by
 unfold qcE
 rw [if_neg (by simp [h1]), if_neg (by simp [h2]), if_neg h3]
def qTok (q : QryE) : QryE := { VB twoF q with frm := [], to := [], fams := [], pre := [], whr := [], rows := 1 }
theorem qTok_fine (q : QryE) : (qTok q).fine := ⟨Nat.zero_le _, Nat.zero_le _, Nat.zero_le _, Nat.zero_le _, Nat.zero_le _, by rw [show (qTok q).token = [] from WP _ _]; exact Nat.zero_le _⟩
theorem Kt {q : QryE} (h : q.token = []) : ZR q = (0, [], 0) := by unfold ZR; rw [if_pos (by rw [h]; rfl)]
theorem qTok_fits (q : QryE) (t : List UInt8) : Yu twoF.length { qTok q with token := t } = true := by
 have h := (qcE_parts (MU UD q)).2.1
 unfold Yu U1 at h
 simp only [Bool.and_eq_true, decide_eq_true_eq] at h
 unfold Yu U1 Qo UO qTok
 simp
 omega
theorem qTok_qcE (q : QryE) (t : List UInt8) : qcE twoF { qTok q with token := t } = (ZR { qTok q with token := t }).2.2 := qcE_of UD (qTok_fits q t) (by rintro ⟨a, _⟩; simp [qTok] at a)
theorem qTok_good (q : QryE) : qcE twoF (qTok q) = 0 := by
 have h := qTok_qcE q (qTok q).token
 have e : ({ qTok q with token := (qTok q).token } : QryE) = qTok q := rfl
 rw [e, Kt (show (qTok q).token = [] from WP _ _)] at h
 exact h
def atT (q : QryE) : Int := if (qTok q).time ≠ 0 then (qTok q).time else 5
theorem atE_tok (q : QryE) : atE (qTok q) 5 = (atT q, 0) := by
 unfold atE atT
 rw [Kt (show (qTok q).token = [] from WP _ _), if_neg odc, if_neg osi, if_neg osi]
 split <;> rfl
theorem atT_in (q : QryE) : 1 ≤ atT q ∧ atT q ≤ 1099511627776 ∧ ((qTok q).time = 0 ∨ (qTok q).time = atT q) := by
 have h := qTok_fits q []
 unfold Yu U1 at h
 simp only [Bool.and_eq_true, decide_eq_true_eq] at h
 obtain ⟨_, h⟩ := h
 have h1 : 0 ≤ (qTok q).time ∧ (qTok q).time ≤ 1099511627776 := ⟨h.1.1.1.1.1.2, h.1.1.1.1.2⟩
 unfold atT
 split
 ·exact ⟨om, om, .inr rfl⟩
 ·exact ⟨om, om, .inl om⟩
def rowT (q : QryE) : List UInt8 := if (qTok q).rev then [114, 51] else [114, 49]
def tokT (q : QryE) : List UInt8 := tokB (qTok q) (atT q) (rowT q)
theorem plain_all (q : QryE) : allV (qTok q) none ZF = dirL (qTok q) ZF := by
 have hc : ∀ l : List CelE, Yg (qTok q) none l = l := fun l => by
   unfold Yg
   refine List.filter_eq_self.2 fun c _ => ?_
   unfold Xr Jo V8 qTok
   simp
 unfold allV visL
 have hm : ∀ x ∈ dirL (qTok q) ZF, visB (qTok q) none x = true ∧ visR (qTok q) none x = x := fun x hx => by
   have hx := Nb.1 hx
   have hne : x.cells ≠ [] := by
     simp only [ZF, List.mem_cons, List.not_mem_nil, or_false] at hx
     rcases hx with rfl | rfl | rfl <;> simp [XZ]
   refine ⟨?_, by unfold visR; rw [hc]⟩
   unfold visB YX
   rw [hc, decide_eq_true hne]
   have := cb_nil x.row
   simp [qTok, this]
 rw [List.filter_eq_self.2 fun x hx => (hm x hx).1]
 conv => rhs; rw [← List.map_id (dirL (qTok q) ZF)]
 exact List.map_congr_left fun x hx => (hm x hx).2
theorem run_tok (q : QryE) : (runE twoF (qTok q) 5 (some (WQ (qTok q) ZF, 0))).2.2 = 0 ∧ (runE twoF (qTok q) 5 (some (WQ (qTok q) ZF, 0))).1.token = tokT q := by
 obtain ⟨m, hm⟩ := run_from (qTok_good q) (clock := 5) odc plain_up plain_good
 rw [hm]
 refine ⟨rfl, ?_⟩
 have ht : WN twoF (qTok q) = none := L6 (by simp [qTok])
 rw [ht, from_none (show (qTok q).token = [] from WP _ _), plain_all, atE_tok]
 have hl : (dirL (qTok q) ZF).length = 3 := by unfold dirL; split <;> rfl
 have hr : ((dirL (qTok q) ZF).getD 0 default).row = rowT q := by unfold dirL rowT; split <;> rfl
 have hq : (qTok q).rows = 1 := rfl
 unfold Kw
 rw [hl, hq, if_neg odc]
 show tokB (qTok q) (atT q) ((dirL (qTok q) ZF).getD 0 default).row = _
 rw [hr]; rfl
theorem Qe (q : QryE) : (rowT q).length = 2 := by unfold rowT; split <;> rfl
theorem tokT_len (q : QryE) : (tokT q).length ≤ 300 ∧ (tokT q).length ≠ 0 := by
 refine ⟨tokB_len _ _ _ (by rw [Qe]; decide), ?_⟩
 unfold tokT tokB; rw [XL]; omega
theorem ask_row {q : QryE} (h1 : q.frm = []) (h2 : q.to = []) (r : List UInt8) : YX q r = true := by
 unfold YX
 rw [h1, h2]
 have := cb_nil r
 simp [this]
def qOth (q o : QryE) : QryE := { VB twoF o with token := tokT q }
def alike (q o : QryE) : Bool := decide ({ qTok q with rows := 0, token := [] } = { qOth q o with rows := 0, token := [] })
theorem alike_taken {q o : QryE} (h : alike q o = true) : qcE twoF (qOth q o) = 0 := by
 have e := of_decide_eq_true h
 have h1 : qOth q o = { qTok q with rows := (qOth q o).rows, token := tokT q } := by
   have e1 : qOth q o = { ({ qOth q o with rows := 0, token := [] } : QryE) with rows := (qOth q o).rows, token := tokT q } := rfl
   rw [e1, ← e]
 have hg := qcE_parts (MU UD o)
 rw [qcE_of UD (show Yu twoF.length (qOth q o) = true from hg.2.1) (show ¬ (0 < (qOth q o).whr.length ∧ (YP twoF (qOth q o).whr).2.1 ≠ 0) from hg.2.2.1)]
 obtain ⟨a1, a2, a3⟩ := atT_in q
 have : ZR (qOth q o) = (atT q, rowT q, 0) := readQ_tok (q := qOth q o) (t := atT q) (row := rowT q) (by rw [h1]; rfl) a1 a2 (by rw [h1]; exact a3) (by rw [Qe]; decide) (by rw [Qe]; decide) (ask_row (by rw [h1]; rfl) (by rw [h1]; rfl) _)
 rw [this]
def qTrn (q : QryE) (t : List UInt8) : QryE := { qTok q with token := t }
theorem turned {q : QryE} {i : Nat} {c : UInt8} {t : List UInt8} (h : t = (tokT q).set i c) : ((qcE twoF (qTrn q t) == 132) == !(t == tokT q)) = true := by
 have hq := qTok_qcE q t
 by_cases e : t = tokT q
 ·obtain ⟨a1, a2, a3⟩ := atT_in q
  have hr : ZR (qTrn q t) = (atT q, rowT q, 0) := readQ_tok (q := qTrn q t) (t := atT q) (row := rowT q) e a1 a2 a3 (by rw [Qe]; decide) (by rw [Qe]; decide) (ask_row rfl rfl _)
  have : qcE twoF (qTrn q t) = 0 := by unfold qTrn; rw [hq]; show (ZR (qTrn q t)).2.2 = 0; rw [hr]
  rw [this, e]; simp
 ·have hr := readQ_turn (q := qTrn q t) (q0 := qTok q) (t := atT q) (row := rowT q) (i := i) (c := c) h rfl e
  have : qcE twoF (qTrn q t) = 132 := by unfold qTrn; rw [hq]; exact hr
  rw [this, beq_eq_false_iff_ne.2 e]; rfl
theorem xor_byte (x : UInt8) (b : Int) : ∃ c : UInt8, AV.int .u8 (intBits .xor .u8 (x.toNat : Int) (IntKind.u8.wrap b)) = Zd c := by
 refine ⟨UInt8.ofNat (((BitVec.ofInt 8 (x.toNat : Int)) ^^^ (BitVec.ofInt 8 (IntKind.u8.wrap b))).toNat), ?_⟩
 unfold Zd
 congr 1
end Go.Proofs.YtkmkbndcekklmaaGreatDoor
set_option maxRecDepth 10000
namespace Go.Proofs.YtkmkbndcekklmaaGreatDoor
open Go Go.Sx Go.Rt Go.Proofs Tryz
theorem from_ok {q : QryE} {l : List RowE} (h : Vt l) : Vt (WQ q l) := by
 refine ⟨?_, fun x hx => h.2 x (Nb.1 (List.mem_filter.1 hx).1)⟩
 refine Nat.le_trans (List.length_filter_le _ _) ?_
 have : (dirL q l).length = l.length := by unfold dirL; split <;> simp
 rw [this]; exact h.1
theorem retGok {f : FuncId} {args : List AV} {r : AV} {H : Heap} {n : Nat} (ha : (1 : Nat) ≠ 1 → H 1 = some (.glob 5 KD)) (hb : H 1 = some (.glob 1 V5)) (h : GOK 1 1 H n → Ret prog f args H n r H n) : Ret prog f args H n r H n :=
 Ret.below hb fun g2 => by
   by_cases hne : (1 : Nat) = 1
   ·exact h ⟨ha, hb, om, g2⟩
   ·exact Ret.below (ha hne) fun g1 => h ⟨ha, hb, g1, g2⟩
theorem cq_good {q : QryE} (hq : q.fine) (H : Heap) : Ji prog (.fn (.func 13) [] []) [Zk twoF, Ze q] H (Ze (VB twoF q)) := fun m => Zo func13 rfl rfl rfl (UW twoF odc q hq) ⟨rfl, rfl, rfl⟩
theorem NT60.eqs {P Q : Prop} (g : Imp P Q := by (try simp only [go_sem, seval, hnum, hnua, hnum2, hszq, hagq, hmoq, hszp, hagp, hmop, f1, f2, f3, f4, f5, f6, b1, b2, b3, b4, g1, g2, g3, g4, Nat.add_assoc, List.length_map, Int.toNat_natCast]); exact NH) : Imp P Q := g
theorem NT60.inz {P Q : Prop} (g : Imp P Q := by refine Imp.up eqs ?_; (repeat (first | (refine Imp.nd ?_ ?_; · first | ((repeat' apply And.intro) <;> first | (intro d hd; cases hd; exact cq_two _) | (intro d hd; cases hd; exact cq_good hq _) | (intro g; trivial) | (intro g; rfl)) | ((repeat' apply And.intro) <;> first | (intro d hd; cases hd; exact cq_two _) | (intro d hd; cases hd; exact cq_good ho _) | (intro g; trivial) | (intro g; rfl)) | (intro _ h8; rw [h8]; rfl)) | refine Imp.pl ?_)); exact NH) : Imp P Q := g
set_option maxRecDepth 100000 in
set_option maxHeartbeats 6400000 in
open NT60 in
theorem Q9 (q : QryE) (hq : q.fine) (o : QryE) (ho : o.fine) (turn by_ : Int) (hw : -9223372036854775808 ≤ turn ∧ turn < 9223372036854775808) (H : Heap) (n : Nat) (hG : GOK 1 1 H n) :
   Ret prog 11 [Ze q, Ze o, .int .i64 turn, .int .i64 by_] H n (.bool true) H n := by
 have hszq : ∀ q, (Ze q).sz = 10 := ZU
 have hagq : ∀ q, (Ze q).isAgg = true := fun _ => rfl
 have hmoq : ∀ q, (Ze q).memOK = true := fun _ => rfl
 have hnum : ∀ l, (Zr l).sz = 1 := fun _ => rfl
 have hnua : ∀ l, (Zr l).isAgg = false := fun _ => rfl
 have hnum2 : ∀ l, (Zr l).memOK = true := fun _ => rfl
 have hszp : ∀ p, (pgAV p).sz = 3 := fun _ => rfl
 have hagp : ∀ p, (pgAV p).isAgg = true := fun _ => rfl
 have hmop : ∀ p, (pgAV p).memOK = true := fun _ => rfl
 have hg1 := hG.gek
 have hg2 := hG.get
 obtain ⟨tl1, tl2⟩ := tokT_len q
 obtain ⟨s1, s2⟩ := run_tok q
 have hro := from_ok (q := qTok q) Us
 have hrl : (WQ (qTok q) ZF).length ≤ 1048576 := hro.1
 obtain ⟨P, hP⟩ : ∃ P, P = (runE twoF (qTok q) 5 (some (WQ (qTok q) ZF, 0))).1 := ⟨_, rfl⟩
 rw [← hP] at s2
 have hqf := qTok_fine q
 have hof : (qOth q o).fine := ⟨(VA ho).frm, (VA ho).to, (VA ho).fams, (VA ho).pre, (VA ho).whr, by show (tokT q).length ≤ _; omega⟩
 have hr0 : (ZR (qTok q)).2.2 = 0 := by rw [Kt (show (qTok q).token = [] from WP _ _)]
 have hak : decide (({ qTok q with rows := 0, token := [] } : QryE) = { qOth q o with rows := 0, token := [] }) = alike q o := rfl
 have hat := alike_taken (q := q) (o := o)
 have f1 : (n = n + 1) = False := by simp
 have f2 : (n + 1 = n) = False := by simp
 have f3 : (n = n + 2) = False := by simp
 have f4 : (n + 1 = n + 2) = False := by simp
 have f5 : (n + 2 = n) = False := by simp
 have f6 : (n + 2 = n + 1) = False := by simp
 have b1 := f1
 have b2 := f1
 have b3 := f1
 have b4 := f1
 have g1 := f1
 have g2 := f1
 have g3 := f1
 have g4 := f1
 refine Ret.fin ?_
 refine fw func11 ntmps11 results11 ?_
 refine rg zs [2, 3, 4, 5] ?_
 refine dx zs [2, 3, 5, 9] [.c, .q, .c, .w [0, 1, 2], .w []] [0, 1, 2, 3, 4] [0, 1, 2, 3, 4] fun K V => ?_
 refine cq func14 (fun _ n => (YJ _ _)) ?_
 refine cq func13 (fun _ n => (UW twoF (by decide) q hq)) ?_
 apply V; clear V K
 refine Zf zs [2, 3, 5, 9] fun K V => ?_
 try simp only [go_sem, seval, hnum, hnua, hnum2, hszq, hagq, hmoq, hszp, hagp, hmop, f1, f2, f3, f4, f5, f6, b1, b2, b3, b4, g1, g2, g3, g4, Nat.add_assoc, List.length_map, Int.toNat_natCast, Ze]
 repeat refine peel ?_
 apply V; clear V K
 refine Zf zs [2, 3, 5, 9] fun K V => ?_
 try simp only [go_sem, seval, hnum, hnua, hnum2, hszq, hagq, hmoq, hszp, hagp, hmop, f1, f2, f3, f4, f5, f6, b1, b2, b3, b4, g1, g2, g3, g4, Nat.add_assoc, List.length_map, Int.toNat_natCast, Ze]
 repeat refine peel ?_
 apply V; clear V K
 refine Zf zs [2, 3, 5, 9] fun K V => ?_
 try simp only [go_sem, seval, hnum, hnua, hnum2, hszq, hagq, hmoq, hszp, hagp, hmop, f1, f2, f3, f4, f5, f6, b1, b2, b3, b4, g1, g2, g3, g4, Nat.add_assoc, List.length_map, Int.toNat_natCast, Ze]
 repeat refine peel ?_
 apply V; clear V K
 refine Zf zs [2, 3, 5, 9] fun K V => ?_
 try simp only [go_sem, seval, hnum, hnua, hnum2, hszq, hagq, hmoq, hszp, hagp, hmop, f1, f2, f3, f4, f5, f6, b1, b2, b3, b4, g1, g2, g3, g4, Nat.add_assoc, List.length_map, Int.toNat_natCast, Ze]
 repeat refine peel ?_
 apply V; clear V K
 refine Zf zs [2, 3, 5, 9] fun K V => ?_
 try simp only [go_sem, seval, hnum, hnua, hnum2, hszq, hagq, hmoq, hszp, hagp, hmop, f1, f2, f3, f4, f5, f6, b1, b2, b3, b4, g1, g2, g3, g4, Nat.add_assoc, List.length_map, Int.toNat_natCast, Ze]
 repeat refine peel ?_
 apply V; clear V K
 refine Zf zs [2, 3, 5, 9] fun K V => ?_
 try simp only [go_sem, seval, hnum, hnua, hnum2, hszq, hagq, hmoq, hszp, hagp, hmop, f1, f2, f3, f4, f5, f6, b1, b2, b3, b4, g1, g2, g3, g4, Nat.add_assoc, List.length_map, Int.toNat_natCast, Ze]
 repeat refine peel ?_
 apply V; clear V K
 refine Xo (n + 2) (els := [qaX (qTok q) .nilsl .nilsl .nilsl .nilsl (bys (VB twoF q).token)]) (els' := [Ze (qTok q)]) (by first | ((try simp only [NF]); (repeat first | rw [if_pos rfl] | rw [if_pos trivial] | rw [if_neg (by omega)]); done) | ((try simp only [NF]); (repeat first | rw [if_pos rfl] | rw [if_pos trivial] | rw [if_neg (by omega)]); rfl)) (wk_qa (.nilsl 1) (.nilsl 1) (.nilsl 1) (.nilsl 1) (.refl _)) ?_
 refine dx zs [2, 3, 5, 9, 10, 11] [.q, .c, .c, .m, .q, .q, .q, .q] [0, 1, 2, 3, 4, 5, 6, 7] [0, 1, 2, 3, 4, 5, 6, 7] fun K V => ?_
 refine cq func17 (fun _ n => (WL _ _)) ?_
 refine cq func15 (fun _ n => (retGok (fun hne => by (try simp only [NF]); (repeat first | rw [if_pos rfl] | rw [if_pos trivial] | rw [if_neg (by omega)]); exact hG.kindsC hne) (by (try simp only [NF]); (repeat first | rw [if_pos rfl] | rw [if_pos trivial] | rw [if_neg (by omega)]); exact hG.table) fun hGx => c_law13_from (qTok q) hqf hr0 ZF Us hGx)) ?_
 apply V; clear V K
 refine Za fun K1 hK1 => ?_
 refine rg zs [2, 3, 5, 9, 10, 35] ?_
 refine Zb ?_ ?_ <;> intro hb
 ·exact absurd hb (by decide)
 refine ak ?_
 apply hK1
 refine awp_seq_j (fun T' H' n' => ∃ kp : Nat, T' = tl [(2, .int .i64 turn), (3, .int .i64 by_), (5, .loc (n + 1) 0 0 0 []), (9, .loc (n + 2) 0 0 0 []), (12, .loc kp 0 0 0 []), (13, .int .i64 0)] ∧ H' (n + 1) = some (.arr 0 10 [Ze o]) ∧ H' (n + 2) = some (.arr 0 10 [Ze (qTok q)]) ∧ H' kp = some (.arr 0 3 [pgAV P]) ∧ n + 2 < kp ∧ kp < n' ∧ ∀ k, k < n → H' k = H k) ?_ ?_
 ·refine awp_tree1 rfl zs [2, 3, 5, 9, 12, 13] 10 [.c, .q, .m, .q, .w [0, 1], .q, .w [], .m, .q, .q, .w [], .w [9], .q] [0, 1, 2, 3, 4, 5, 6, 7, 8, 9] [11, 12] (.w [0, 1, 3, 5, 8, 9]) [(4, .w [0, 1, 3]), (6, .w [0, 1, 3, 5])] [0, 1, 2, 3, 4, 5, 6, 7, 8, 9, 0, 10, 11] (by decide) (by kernel_rfl) (fun _ _ _ _ _ h => h) fun K V => ?_
  refine nz ?_
  refine cq func14 (fun _ n => (YJ _ _)) ?_
  refine And.intro ?_ ?_
  ·refine nz ?_
   refine Zn (args' := [Zk twoF, Ze (qTok q), .int .i64 5, .iface 52 (.loc _ 0 0 0 [])]) func18 rfl rfl rfl ((YK twoF (by decide) (qTok q) hqf 5 (WQ (qTok q) ZF) 0 hro _ ?_ ?_)) ?_ ?_
   ·exact hG.on (fun k hk => by (try simp only [NF]); (repeat first | rw [if_pos rfl] | rw [if_pos trivial] | rw [if_neg (by omega)])) (by omega)
   ·(try simp only [NF]); (repeat first | rw [if_pos rfl] | rw [if_pos trivial] | rw [if_neg (by omega)]); rfl
   rotate_left
   ·intro p H' n' hc; obtain ⟨_, _, hr⟩ := hc; cases hr
   intro rr H1 n1 hc
   obtain ⟨hn1, hlo1, hr⟩ := hc
   rw [s1, ← hP] at hr
   cases hr
   have g3 : (n = n1) = False := by simp; omega
   have g2 : (n + 2 = n1) = False := by simp; omega
   have g1 : (n + 1 = n1) = False := by simp; omega
   have b1 : H1 (n + 1) = some (.arr 0 10 [Ze o]) := (hlo1 _ (by omega) (by omega)).trans (by first | ((try simp only [NF]); (repeat first | rw [if_pos rfl] | rw [if_pos trivial] | rw [if_neg (by omega)]); done) | ((try simp only [NF]); (repeat first | rw [if_pos rfl] | rw [if_pos trivial] | rw [if_neg (by omega)]); rfl))
   have b2 : H1 (n + 2) = some (.arr 0 10 [Ze (qTok q)]) := (hlo1 _ (by omega) (by omega)).trans (by first | ((try simp only [NF]); (repeat first | rw [if_pos rfl] | rw [if_pos trivial] | rw [if_neg (by omega)]); done) | ((try simp only [NF]); (repeat first | rw [if_pos rfl] | rw [if_pos trivial] | rw [if_neg (by omega)]); rfl))
   have b3 : H1 (n + 3) = some (.arr 0 3 [.agg [.nilsl, .nilsl, .bool false]]) := (hlo1 _ (by omega) (by omega)).trans (by (try simp only [NF]); (repeat first | rw [if_pos rfl] | rw [if_pos trivial] | rw [if_neg (by omega)]))
   have hlow1 : ∀ k, k < n → H1 k = H k := fun k hk => (hlo1 k (by omega) (by omega)).trans (by (try simp only [NF]); (repeat first | rw [if_pos rfl] | rw [if_pos trivial] | rw [if_neg (by omega)]))
   refine nz ?_
   apply V; clear V K
   refine ns ?_
   refine ⟨_, rfl, ?_⟩
   (repeat' apply And.intro) <;> first | omega | (intro k hk; (try simp only [NF]); (repeat first | rw [if_pos rfl] | rw [if_pos trivial] | rw [if_neg (by omega)]); exact hlow1 k hk) | ((try simp only [NF]); (repeat first | rw [if_pos rfl] | rw [if_pos trivial] | rw [if_neg (by omega)]); first | done | rfl | exact b2 | exact b1 | exact b3)
  refine nz ?_
  refine And.intro ?_ ?_
  ·refine nz ?_
   refine Zn (args' := [Zk twoF, Ze (qTok q), .int .i64 5, .iface 52 (.loc _ 0 0 0 [])]) func18 rfl rfl rfl ((YK twoF (by decide) (qTok q) hqf 5 (WQ (qTok q) ZF) 0 hro _ ?_ ?_)) ?_ ?_
   ·exact hG.on (fun k hk => by (try simp only [NF]); (repeat first | rw [if_pos rfl] | rw [if_pos trivial] | rw [if_neg (by omega)])) (by omega)
   ·(try simp only [NF]); (repeat first | rw [if_pos rfl] | rw [if_pos trivial] | rw [if_neg (by omega)]); rfl
   rotate_left
   ·intro p H' n' hc; obtain ⟨_, _, hr⟩ := hc; cases hr
   intro rr H1 n1 hc
   obtain ⟨hn1, hlo1, hr⟩ := hc
   rw [s1, ← hP] at hr
   cases hr
   have g3 : (n = n1) = False := by simp; omega
   have g2 : (n + 2 = n1) = False := by simp; omega
   have g1 : (n + 1 = n1) = False := by simp; omega
   have b1 : H1 (n + 1) = some (.arr 0 10 [Ze o]) := (hlo1 _ (by omega) (by omega)).trans (by first | ((try simp only [NF]); (repeat first | rw [if_pos rfl] | rw [if_pos trivial] | rw [if_neg (by omega)]); done) | ((try simp only [NF]); (repeat first | rw [if_pos rfl] | rw [if_pos trivial] | rw [if_neg (by omega)]); rfl))
   have b2 : H1 (n + 2) = some (.arr 0 10 [Ze (qTok q)]) := (hlo1 _ (by omega) (by omega)).trans (by first | ((try simp only [NF]); (repeat first | rw [if_pos rfl] | rw [if_pos trivial] | rw [if_neg (by omega)]); done) | ((try simp only [NF]); (repeat first | rw [if_pos rfl] | rw [if_pos trivial] | rw [if_neg (by omega)]); rfl))
   have b3 : H1 (n + 4) = some (.arr 0 3 [.agg [.nilsl, .nilsl, .bool false]]) := (hlo1 _ (by omega) (by omega)).trans (by (try simp only [NF]); (repeat first | rw [if_pos rfl] | rw [if_pos trivial] | rw [if_neg (by omega)]))
   have hlow1 : ∀ k, k < n → H1 k = H k := fun k hk => (hlo1 k (by omega) (by omega)).trans (by (try simp only [NF]); (repeat first | rw [if_pos rfl] | rw [if_pos trivial] | rw [if_neg (by omega)]))
   refine nz ?_
   apply V; clear V K
   refine ns ?_
   refine ⟨_, rfl, ?_⟩
   (repeat' apply And.intro) <;> first | omega | (intro k hk; (try simp only [NF]); (repeat first | rw [if_pos rfl] | rw [if_pos trivial] | rw [if_neg (by omega)]); exact hlow1 k hk) | ((try simp only [NF]); (repeat first | rw [if_pos rfl] | rw [if_pos trivial] | rw [if_neg (by omega)]); first | done | rfl | exact b2 | exact b1 | exact b3)
  refine nz ?_
  refine Zn (args' := [Zk twoF, Ze (qTok q), .int .i64 5, .iface 52 (.loc _ 0 0 0 [])]) func18 rfl rfl rfl ((YK twoF (by decide) (qTok q) hqf 5 (WQ (qTok q) ZF) 0 hro _ ?_ ?_)) ?_ ?_
  ·exact hG.on (fun k hk => by (try simp only [NF]); (repeat first | rw [if_pos rfl] | rw [if_pos trivial] | rw [if_neg (by omega)])) (by omega)
  ·(try simp only [NF]); (repeat first | rw [if_pos rfl] | rw [if_pos trivial] | rw [if_neg (by omega)]); rfl
  rotate_left
  ·intro p H' n' hc; obtain ⟨_, _, hr⟩ := hc; cases hr
  intro rr H1 n1 hc
  obtain ⟨hn1, hlo1, hr⟩ := hc
  rw [s1, ← hP] at hr
  cases hr
  have g3 : (n = n1) = False := by simp; omega
  have g2 : (n + 2 = n1) = False := by simp; omega
  have g1 : (n + 1 = n1) = False := by simp; omega
  have b1 : H1 (n + 1) = some (.arr 0 10 [Ze o]) := (hlo1 _ (by omega) (by omega)).trans (by first | ((try simp only [NF]); (repeat first | rw [if_pos rfl] | rw [if_pos trivial] | rw [if_neg (by omega)]); done) | ((try simp only [NF]); (repeat first | rw [if_pos rfl] | rw [if_pos trivial] | rw [if_neg (by omega)]); rfl))
  have b2 : H1 (n + 2) = some (.arr 0 10 [Ze (qTok q)]) := (hlo1 _ (by omega) (by omega)).trans (by first | ((try simp only [NF]); (repeat first | rw [if_pos rfl] | rw [if_pos trivial] | rw [if_neg (by omega)]); done) | ((try simp only [NF]); (repeat first | rw [if_pos rfl] | rw [if_pos trivial] | rw [if_neg (by omega)]); rfl))
  have hlow1 : ∀ k, k < n → H1 k = H k := fun k hk => (hlo1 k (by omega) (by omega)).trans (by (try simp only [NF]); (repeat first | rw [if_pos rfl] | rw [if_pos trivial] | rw [if_neg (by omega)]))
  refine nz ?_
  apply V; clear V K
  refine ns ?_
  refine ⟨_, rfl, ?_⟩
  (repeat' apply And.intro) <;> first | omega | (intro k hk; (try simp only [NF]); (repeat first | rw [if_pos rfl] | rw [if_pos trivial] | rw [if_neg (by omega)]); exact hlow1 k hk) | ((try simp only [NF]); (repeat first | rw [if_pos rfl] | rw [if_pos trivial] | rw [if_neg (by omega)]); first | done | rfl | exact b2 | exact b1 | exact b3)
 rintro T9 H1 n1 ⟨kp, rfl, b1, b2, b3, hkp, hkn, hlow1⟩
 refine Za fun K2 hK2 => ?_
 refine Zf zs [2, 3, 5, 9, 12, 54] fun K V => ?_
 try simp only [go_sem, seval, hnum, hnua, hnum2, hszq, hagq, hmoq, hszp, hagp, hmop, f1, f2, f3, f4, f5, f6, b1, b2, b3, b4, g1, g2, g3, g4, Nat.add_assoc, List.length_map, Int.toNat_natCast, pgAV, s2]
 repeat refine peel ?_
 refine Zo func20 rfl rfl rfl ((Xm _ _ _)) ?_
 try simp only [go_sem, seval, hnum, hnua, hnum2, hszq, hagq, hmoq, hszp, hagp, hmop, f1, f2, f3, f4, f5, f6, b1, b2, b3, b4, g1, g2, g3, g4, Nat.add_assoc, List.length_map, Int.toNat_natCast, pgAV, s2]
 repeat refine peel ?_
 apply V; clear V K
 refine Zb ?_ ?_ <;> intro hb
 ·exact absurd hb (by simp [tl2])
 refine ak ?_
 apply hK2
 have g1 : (kp = n1) = False := by simp; omega
 have g2 : (n + 2 = n1) = False := by simp; omega
 have g3 : (n + 1 = n1) = False := by simp; omega
 have g4 : (n = n1) = False := by simp; omega
 refine dx zs [2, 3, 9, 12, 14] [.c, .q, .c, .w [0, 1, 2], .w []] [0, 1, 2, 3, 4] [0, 1, 2, 3, 4] fun K V => ?_
 refine cq func14 (fun _ n => (YJ _ _)) ?_
 refine cq func13 (fun _ n => (UW twoF (by decide) o ho)) ?_
 apply V; clear V K
 refine Zf zs [2, 3, 9, 12, 14] fun K V => ?_
 try simp only [go_sem, seval, hnum, hnua, hnum2, hszq, hagq, hmoq, hszp, hagp, hmop, f1, f2, f3, f4, f5, f6, b1, b2, b3, b4, g1, g2, g3, g4, Nat.add_assoc, List.length_map, Int.toNat_natCast, pgAV, s2, Ze]
 repeat refine peel ?_
 apply V; clear V K
 refine Xo n1 (els := [Ze (qOth q o)]) (els' := [Ze (qOth q o)]) (by first | ((try simp only [NF]); (repeat first | rw [if_pos rfl] | rw [if_pos trivial] | rw [if_neg (by omega)]); done) | ((try simp only [NF]); (repeat first | rw [if_pos rfl] | rw [if_pos trivial] | rw [if_neg (by omega)]); rfl)) ⟨.refl _, trivial⟩ ?_
 refine dx zs [2, 3, 9, 12, 14, 15] [.q, .c, .q, .c, .c, .q] [0, 1, 2, 3, 4, 5] [0, 1, 2, 3, 4, 5] fun K V => ?_
 refine cq func45 (fun _ n => (Je (qTok q) _ _)) ?_
 refine cq func45 (fun _ n => (Je (qOth q o) _ _)) ?_
 refine cq func44 (fun _ n => (J6 _ _ (Nat.zero_le _) (by exact hof.fams) _ _)) ?_
 apply V; clear V K
 refine XJ rfl zs [2, 3, 9, 12, 14, 15, 16] [.c, .q, .c, .c, .q, .q] [0, 1, 2, 3, 4, 5] [0, 1, 2, 3, 4, 5] (by kernel_rfl) (fun _ _ _ _ _ h => h) fun K V => ?_
 try simp only [go_sem, seval, hnum, hnua, hnum2, hszq, hagq, hmoq, hszp, hagp, hmop, f1, f2, f3, f4, f5, f6, b1, b2, b3, b4, g1, g2, g3, g4, Nat.add_assoc, List.length_map, Int.toNat_natCast, hak]
 repeat refine peel ?_
 refine ZL func14 rfl rfl rfl (fun _ n => (YJ _ _)) ?_
 try simp only [go_sem, seval, hnum, hnua, hnum2, hszq, hagq, hmoq, hszp, hagp, hmop, f1, f2, f3, f4, f5, f6, b1, b2, b3, b4, g1, g2, g3, g4, Nat.add_assoc, List.length_map, Int.toNat_natCast, hak]
 repeat refine peel ?_
 refine ZL func34 rfl rfl rfl (fun _ n => (retGok (fun hne => by (try simp only [NF]); (repeat first | rw [if_pos rfl] | rw [if_pos trivial] | rw [if_neg (by omega)]); rw [hlow1 _ hg1]; exact hG.kindsC hne) (by (try simp only [NF]); (repeat first | rw [if_pos rfl] | rw [if_pos trivial] | rw [if_neg (by omega)]); rw [hlow1 _ hg2]; exact hG.table) fun hGx => Uf twoF (by decide) (qOth q o) hof hGx)) ?_
 try simp only [go_sem, seval, hnum, hnua, hnum2, hszq, hagq, hmoq, hszp, hagp, hmop, f1, f2, f3, f4, f5, f6, b1, b2, b3, b4, g1, g2, g3, g4, Nat.add_assoc, List.length_map, Int.toNat_natCast, hak]
 repeat refine peel ?_
 refine ZL func20 rfl rfl rfl (fun _ n => (Xm _ _ _)) ?_
 try simp only [go_sem, seval, hnum, hnua, hnum2, hszq, hagq, hmoq, hszp, hagp, hmop, f1, f2, f3, f4, f5, f6, b1, b2, b3, b4, g1, g2, g3, g4, Nat.add_assoc, List.length_map, Int.toNat_natCast, hak]
 repeat refine peel ?_
 apply V; clear V K
 refine Za fun K3 hK3 => ?_
 refine dx zs [2, 3, 9, 12, 83] [.m, .m, .m, .q, .q, .m, .m, .c, .q, .c, .q, .q, .q] [0, 1, 2, 3, 4, 5, 6, 7, 8, 9, 10, 11, 12] [0, 1, 2, 3, 4, 5, 6, 7, 8, 9, 10, 11, 12] fun K V => ?_
 refine cq func14 (fun _ n => (YJ _ _)) ?_
 refine cq func38 (fun _ n => (Ub twoF (by decide) (qOth q o) hof _ _)) ?_
 apply V; clear V K
 refine Zb ?_ ?_ <;> intro hb
 ·have h83 : False := by
    clear hak
    by_cases h8 : qcE twoF (qOth q o) = 0
    ·cases h9 : alike q o <;> simp [h8, h9] at hb
    ·cases h9 : alike q o
     ·simp [h8, h9] at hb
     ·exact h8 (hat h9)
  exact h83.elim
 refine ak ?_
 apply hK3
 refine Zf zs [2, 3, 9, 12, 17] fun K V => ?_
 try simp only [go_sem, seval, hnum, hnua, hnum2, hszq, hagq, hmoq, hszp, hagp, hmop, f1, f2, f3, f4, f5, f6, b1, b2, b3, b4, g1, g2, g3, g4, Nat.add_assoc, List.length_map, Int.toNat_natCast, pgAV, s2]
 repeat refine peel ?_
 refine Zo func23 rfl rfl rfl ((JN (tokT q) (by omega) _ _)) ?_
 try simp only [go_sem, seval, hnum, hnua, hnum2, hszq, hagq, hmoq, hszp, hagp, hmop, f1, f2, f3, f4, f5, f6, b1, b2, b3, b4, g1, g2, g3, g4, Nat.add_assoc, List.length_map, Int.toNat_natCast, pgAV, s2]
 repeat refine peel ?_
 apply V; clear V K
 refine ZV (fun H' n' => H' (n + 2) = some (.arr 0 10 [Ze (qTok q)]) ∧ H' kp = some (.arr 0 3 [pgAV P]) ∧ H' (n1 + 1) = some (.arr 1 1 ((tokT q).map Zd)) ∧ (∀ k, k < n → H' k = H k) ∧ n' = n1 + 2) ⟨by (try simp only [NF]); (repeat first | rw [if_pos rfl] | rw [if_pos trivial] | rw [if_neg (by omega)]); exact b2, by (try simp only [NF]); (repeat first | rw [if_pos rfl] | rw [if_pos trivial] | rw [if_neg (by omega)]); exact b3, by (try simp only [NF]); (repeat first | rw [if_pos rfl] | rw [if_pos trivial] | rw [if_neg (by omega)]), fun k hk => by (try simp only [NF]); (repeat first | rw [if_pos rfl] | rw [if_pos trivial] | rw [if_neg (by omega)]); exact hlow1 k hk, by omega⟩ fun H2 n2 ⟨b2, b3, b4, hlow2, hn2⟩ => ?_
 subst hn2
 have hna : (turn.tmod ((tokT q).length : Int)).natAbs < (tokT q).length := by rw [Int.natAbs_tmod]; exact Nat.mod_lt _ (by simp; omega)
 have hwm : IntKind.i64.wrap (turn.tmod ((tokT q).length : Int)) = turn.tmod ((tokT q).length : Int) := w64 (by omega) (by omega)
 refine Zf zs [3, 9, 12, 17, 18] fun K V => ?_
 try simp only [go_sem, seval, hnum, hnua, hnum2, hszq, hagq, hmoq, hszp, hagp, hmop, f1, f2, f3, f4, f5, f6, b1, b2, b3, b4, g1, g2, g3, g4, Nat.add_assoc, List.length_map, Int.toNat_natCast, hwm]
 repeat refine peel ?_
 apply V; clear V K
 refine Z8 [3, 9, 12, 17, 18] (fun T' H' n' => ∃ i : Nat, i < (tokT q).length ∧ T' = tl [(3, .int .i64 by_), (9, .loc (n + 2) 0 0 0 []), (12, .loc kp 0 0 0 []), (17, .osl (n1 + 1) 1 0 (tokT q).length), (18, .int .i64 i)] ∧ H' = H2 ∧ n' = n1 + 2) ?_ ?_
 ·refine rg zs [3, 9, 12, 17, 18, 92] ?_
  refine Zb ?_ ?_ <;> intro hb
  ·have hlt0 : turn.tmod ((tokT q).length : Int) < 0 := of_decide_eq_true hb
   have hwa : IntKind.i64.wrap (turn.tmod ((tokT q).length : Int) + ((tokT q).length : Int)) = (((turn.tmod ((tokT q).length : Int) + ((tokT q).length : Int)).toNat : Nat) : Int) := by rw [w64 (by omega) (by omega)]; omega
   refine ZG zs [3, 9, 12, 17, 18] fun K V => ?_
   try simp only [go_sem, seval, hnum, hnua, hnum2, hszq, hagq, hmoq, hszp, hagp, hmop, f1, f2, f3, f4, f5, f6, b1, b2, b3, b4, g1, g2, g3, g4, Nat.add_assoc, List.length_map, Int.toNat_natCast, hwa]
   repeat refine peel ?_
   apply V; clear V K
   refine ns ?_
   refine ns ?_
   exact ⟨_, by omega, rfl⟩
  have hge0 : turn.tmod ((tokT q).length : Int) = (((turn.tmod ((tokT q).length : Int)).toNat : Nat) : Int) := by have := of_decide_eq_false hb; omega
  refine ak ?_
  refine ns ?_
  exact ⟨(turn.tmod ((tokT q).length : Int)).toNat, by omega, by rw [← hge0]⟩
 rintro T8 H8 n8 ⟨i, hi, rfl, rfl, rfl⟩
 obtain ⟨c, hc⟩ := xor_byte ((tokT q).getD i 0) by_
 have hnt : nth ((tokT q).map Zd) i = .int .u8 ((tokT q).getD i 0).toNat := ZC Zd _ i hi
 refine Zf zs [9, 12, 17] fun K V => ?_
 try simp only [go_sem, seval, hnum, hnua, hnum2, hszq, hagq, hmoq, hszp, hagp, hmop, f1, f2, f3, f4, f5, f6, b1, b2, b3, b4, g1, g2, g3, g4, Nat.add_assoc, List.length_map, Int.toNat_natCast, hnt, hc, b4]
 repeat (first | (refine And.intro ?_ ?_; · first | exact ⟨by omega, by omega⟩) | refine peel ?_)
 apply V; clear V K
 have hmt : (((tokT q).map Zd).set i (AV.int .u8 (c.toNat : Int))) = ((tokT q).set i c).map Zd := List.map_set.symm
 try rw [hmt]
 have htn := turned (q := q) (i := i) (c := c) (t := (tokT q).set i c) rfl
 obtain ⟨t, ht⟩ : ∃ t, t = (tokT q).set i c := ⟨_, rfl⟩
 have htl : t.length = (tokT q).length := by rw [ht, List.length_set]
 rw [← ht] at htn ⊢
 rw [← htl]
 refine Nu 17 (n1 + 1) (NG _ _ _) (fz_bys t) ?_
 refine ns ?_
 refine Zf zs [9, 12, 17] fun K V => ?_
 try simp only [go_sem, seval, hnum, hnua, hnum2, hszq, hagq, hmoq, hszp, hagp, hmop, f1, f2, f3, f4, f5, f6, b1, b2, b3, b4, g1, g2, g3, g4, Nat.add_assoc, List.length_map, Int.toNat_natCast, Ze]
 repeat refine peel ?_
 apply V; clear V K
 have hqt : (qTrn q t).fine := ⟨Nat.zero_le _, Nat.zero_le _, Nat.zero_le _, Nat.zero_le _, Nat.zero_le _, by show t.length ≤ _; omega⟩
 refine Xo (n + 2) (els := [qaX (qTok q) (bys []) (bys []) (Zr []) (bys []) (bys t)]) (els' := [Ze (qTrn q t)]) (by first | ((try simp only [NF]); (repeat first | rw [if_pos rfl] | rw [if_pos trivial] | rw [if_neg (by omega)]); done) | ((try simp only [NF]); (repeat first | rw [if_pos rfl] | rw [if_pos trivial] | rw [if_neg (by omega)]); rfl)) (wk_qa (q := qTrn q t) (.refl _) (.refl _) (.refl _) (.refl _) (.refl _)) ?_
 have g5 : (kp = n + 2) = False := by simp; omega
 have g6 : (kp = n1 + 1) = False := by simp; omega
 refine XJ rfl zs [8] [.c, .q, .c, .c, .q, .m, .q, .q, .c, .q, .q, .m, .c, .q, .q] [0, 1, 2, 3, 4, 5, 6, 7, 8, 9, 10, 11, 12, 13, 14] [0, 1, 2, 3, 4, 5, 6, 7, 8, 9, 10, 11, 12, 13, 14] (by kernel_rfl) (fun _ _ _ _ _ h => h) fun K V => ?_
 try simp only [go_sem, seval, hnum, hnua, hnum2, hszq, hagq, hmoq, hszp, hagp, hmop, f1, f2, f3, f4, f5, f6, b1, b2, b3, b4, g1, g2, g3, g4, Nat.add_assoc, List.length_map, Int.toNat_natCast, pgAV, s2, g5, g6]
 repeat refine peel ?_
 refine ZL func14 rfl rfl rfl (fun _ n => (YJ _ _)) ?_
 try simp only [go_sem, seval, hnum, hnua, hnum2, hszq, hagq, hmoq, hszp, hagp, hmop, f1, f2, f3, f4, f5, f6, b1, b2, b3, b4, g1, g2, g3, g4, Nat.add_assoc, List.length_map, Int.toNat_natCast, pgAV, s2, g5, g6]
 repeat refine peel ?_
 refine ZL func34 rfl rfl rfl (fun _ n => (retGok (fun hne => by (try simp only [NF]); (repeat first | rw [if_pos rfl] | rw [if_pos trivial] | rw [if_neg (by omega)]); rw [hlow2 _ hg1]; exact hG.kindsC hne) (by (try simp only [NF]); (repeat first | rw [if_pos rfl] | rw [if_pos trivial] | rw [if_neg (by omega)]); rw [hlow2 _ hg2]; exact hG.table) fun hGx => Uf twoF (by decide) (qTrn q t) hqt hGx)) ?_
 try simp only [go_sem, seval, hnum, hnua, hnum2, hszq, hagq, hmoq, hszp, hagp, hmop, f1, f2, f3, f4, f5, f6, b1, b2, b3, b4, g1, g2, g3, g4, Nat.add_assoc, List.length_map, Int.toNat_natCast, pgAV, s2, g5, g6]
 repeat refine peel ?_
 refine ZL func20 rfl rfl rfl (fun _ n => (Xm _ _ _)) ?_
 try simp only [go_sem, seval, hnum, hnua, hnum2, hszq, hagq, hmoq, hszp, hagp, hmop, f1, f2, f3, f4, f5, f6, b1, b2, b3, b4, g1, g2, g3, g4, Nat.add_assoc, List.length_map, Int.toNat_natCast, pgAV, s2, g5, g6]
 repeat refine peel ?_
 refine ZL func46 rfl rfl rfl (fun _ n => (WU t (tokT q) _ _)) ?_
 try simp only [go_sem, seval, hnum, hnua, hnum2, hszq, hagq, hmoq, hszp, hagp, hmop, f1, f2, f3, f4, f5, f6, b1, b2, b3, b4, g1, g2, g3, g4, Nat.add_assoc, List.length_map, Int.toNat_natCast, pgAV, s2, g5, g6]
 repeat refine peel ?_
 refine ZL func31 rfl rfl rfl (fun _ n => (retGok (fun hne => by (try simp only [NF]); (repeat first | rw [if_pos rfl] | rw [if_pos trivial] | rw [if_neg (by omega)]); rw [hlow2 _ hg1]; exact hG.kindsC hne) (by (try simp only [NF]); (repeat first | rw [if_pos rfl] | rw [if_pos trivial] | rw [if_neg (by omega)]); rw [hlow2 _ hg2]; exact hG.table) fun hGx => LA _ _ hGx)) ?_
 try simp only [go_sem, seval, hnum, hnua, hnum2, hszq, hagq, hmoq, hszp, hagp, hmop, f1, f2, f3, f4, f5, f6, b1, b2, b3, b4, g1, g2, g3, g4, Nat.add_assoc, List.length_map, Int.toNat_natCast, pgAV, s2, g5, g6]
 repeat refine peel ?_
 apply V; clear V K
 refine ar ?_
 exact ⟨_, rfl, fun k hk => by (try simp only [NF]); (repeat first | rw [if_pos rfl] | rw [if_pos trivial] | rw [if_neg (by omega)]); exact hlow2 k hk, Frz.eq (by rw [htn]; rfl) trivial⟩
end Go.Proofs.YtkmkbndcekklmaaGreatDoor