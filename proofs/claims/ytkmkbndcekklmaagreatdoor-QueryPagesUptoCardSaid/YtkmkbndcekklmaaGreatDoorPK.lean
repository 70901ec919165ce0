/- Own layer: walks through the document's frames. Of the program; no condition. -/
import Derived.Test.YtkmkbndcekklmaaGreatDoorPJ
import Derived.Test.YtkmkbndcekklmaaGreatDoorPF
set_option linter.unusedSimpArgs false
set_option linter.unusedVariables false
set_option maxRecDepth 10000
namespace Go.Proofs.YtkmkbndcekklmaaGreatDoor
open Go Go.Sx Go.Rt Go.Proofs Tryz
theorem eight_head (v : Nat) : (U0 v 8).drop 4 = Y4 v := by
 show [Z9 ((v / 256 ^ 3 : Nat) : Int), Z9 ((v / 256 ^ 2 : Nat) : Int), Z9 ((v / 256 ^ 1 : Nat) : Int), Z9 ((v / 256 ^ 0 : Nat) : Int)] = _
 unfold Y4
 rw [show ((v / 256 ^ 3 : Nat) : Int) = (v : Int) / 16777216 by omega, show ((v / 256 ^ 2 : Nat) : Int) = (v : Int) / 65536 by omega, show ((v / 256 ^ 1 : Nat) : Int) = (v : Int) / 256 by omega, show ((v / 256 ^ 0 : Nat) : Int) = (v : Int) by omega]
theorem NHk0.eqs {P Q : Prop} (g : Imp P Q := by (try simp only [go_sem, seval, List.length_map, Z0, hu, e1, e4, YH, Option.getD_some, Option.getD_none]); exact NW) : Imp P Q := g
open NHk0 NY in
theorem c_ref1_Frame (b : List UInt8) (hb : b.length ≤ 1048576) (H : Heap) (n : Nat) : Ret prog 129 [bys b] H n (.tup [bys (X5 b), .int .i64 0]) H n := by
 have hu : u64 (b.length : Int) = b.length := Vu _ om
 have e1 : List.drop 4 (List.take 8 ((U0 b.length 8).map Zd)) = (Y4 b.length).map Zd := by rw [List.take_of_length_le (by simp [YH]), ← List.map_drop, eight_head]
 obtain ⟨hd, hhd⟩ : ∃ x, x = Y4 b.length := ⟨_, rfl⟩
 have hdl : hd.length = 4 := by rw [hhd]; rfl
 have hfb : X5 b = hd ++ lowB (sumF [hd]) ++ b ++ lowB (sumF [b]) := by rw [hhd]; rfl
 rw [← hhd] at e1
 have e2 : (hd.take 4).drop 0 = hd := by rw [List.drop_zero, List.take_of_length_le om]
 have hll : ∀ v, (lowB v).length = 4 := fun v => rfl
 have e4 : List.take 4 (hd.map Zd) = hd.map Zd := List.take_of_length_le oz
 have e8 : List.take 8 ((hd ++ lowB (sumF [hd])).map Zd) = (hd ++ lowB (sumF [hd])).map Zd := List.take_of_length_le (by simp [hll]; omega)
 have hzz : (Option.map (fun x => x) (none : Option Nat)) = none := rfl
 refine Ret.fin ?_
 refine fw func129 ntmps129 results129 ?_
 refine kcu ?_
 refine Zb fun K1 hK1 => ?_
 refine rg zs [0, 8] ?_
 refine Za ?_ ?_ <;> intro hb
 ·exact absurd (of_decide_eq_true hb) om
 refine kay ?_
 refine rk zs [0, 4] fun K V => ?_
 refine ck func146 ((c_ref1_eight b.length om _ _)) ?_
 refine kas ?_
 refine rk zs [0, 5] fun K V => ?_
 refine ck func58 ((e2 ▸ Vg hd om 0 4 om om _ _)) ?_
 refine ck func133 ((Vb hd om _ _)) ?_
 refine kas ?_
 refine ZU (fun H' n' => H' n = some (.arr 2 1 ((hd ++ lowB (sumF [hd])).map Zd)) ∧ (∀ k, k < n → H' k = H k) ∧ n' = n + 1) ⟨by simp only [NU, List.map_append]; rw [List.take_of_length_le osi], fun k hk => NT _ _ om, rfl⟩ fun H1 n1 ⟨r1, hl1, hn1⟩ => ?_
 subst hn1
 refine kbS ?_
 have hl8 : (hd ++ lowB (sumF [hd])).length = 8 := by rw [List.length_append, hdl]; rfl
 have e9 : List.take (hd ++ lowB (sumF [hd])).length ((hd ++ lowB (sumF [hd])).map Zd) = (hd ++ lowB (sumF [hd])).map Zd := List.take_of_length_le osi
 refine Zg zs [0, 5] fun K V => ?_
 try simp only [go_sem, seval, List.length_map, Z0, hu, e1, e4, YH, Option.getD_some, Option.getD_none, r1, e9]
 repeat (first | (refine And.intro ?_ ?_; · first | exact ⟨osi, .inr trivial, om, om⟩) | refine peel ?_)
 refine kas ?_
 refine ZU (fun H' n' => H' n = some (.arr 3 1 ((hd ++ lowB (sumF [hd]) ++ b).map Zd)) ∧ (∀ k, k < n → H' k = H k) ∧ n' = n + 1) ⟨by simp only [NU, List.map_append], fun k hk => (NT _ _ om).trans (hl1 k hk), rfl⟩ fun H2 n2 ⟨r2, hl2, hn2⟩ => ?_
 subst hn2
 refine kbS ?_
 have e10 : List.take (hd ++ lowB (sumF [hd]) ++ b).length ((hd ++ lowB (sumF [hd]) ++ b).map Zd) = (hd ++ lowB (sumF [hd]) ++ b).map Zd := List.take_of_length_le osi
 have hl9 : (hd ++ lowB (sumF [hd]) ++ b).length = 8 + b.length := by rw [List.length_append, hl8]
 refine Zg zs [2, 3] fun K V => ?_
 try simp only [go_sem, seval, List.length_map, Z0, hu, e1, e4, YH, Option.getD_some, Option.getD_none, r2, e10]
 repeat refine peel ?_
 refine Zq func133 rfl rfl rfl ((Vb b om _ _)) ?_
 try simp only [go_sem, seval, List.length_map, Z0, hu, e1, e4, YH, Option.getD_some, Option.getD_none, r2, e10]
 repeat (first | (refine And.intro ?_ ?_; · first | exact ⟨osi, .inr trivial, by rw [hl9, hll]; omega, by rw [hl9, hll]; omega⟩) | refine peel ?_)
 refine kas ?_
 refine ar ?_
 refine ⟨_, rfl, fun k hk => by rw [if_neg om]; exact hl2 k hk, ?_⟩
 rw [hfb]
 exact .tup (.cons (.osl (NU _ _ _) (Nat.le_refl _) oz (by rw [List.drop_zero, List.take_of_length_le oz, ← List.map_append]; exact XH _ (ZM _ _))) (.cons (.kl trivial) .nil))
theorem or_add {x y k : Nat} (h : y < 2 ^ k) : x * 2 ^ k ||| y = x * 2 ^ k + y := by
 rw [← Nat.shiftLeft_eq, ← Nat.shiftLeft_add_eq_or_of_lt h]
theorem hd4_num {b : List UInt8} (h : 4 ≤ b.length) : hd4 b = numB 0 ((b.drop 0).take 4) := by
 obtain ⟨x, y, z, w, l, rfl⟩ : ∃ x y z w l, b = x :: y :: z :: w :: l := by
   match b, h with
   | x :: y :: z :: w :: l, _ => exact ⟨x, y, z, w, l, rfl⟩
 have hx := x.toNat_lt; have hy := y.toNat_lt; have hz := z.toNat_lt; have hw := w.toNat_lt
 show ((x.toNat * 2 ^ 24 ||| y.toNat * 2 ^ 16) ||| z.toNat * 2 ^ 8) ||| w.toNat = 256 * (256 * (256 * (256 * 0 + x.toNat) + y.toNat) + z.toNat) + w.toNat
 rw [Nat.or_assoc, or_add (x := z.toNat) (y := w.toNat) (k := 8) om, Nat.or_assoc, or_add (x := y.toNat) (y := z.toNat * 2 ^ 8 + w.toNat) (k := 16) om, or_add (x := x.toNat) (k := 24) om]
 omega
theorem NHk1.eqs {P Q : Prop} (g : Imp P Q := by (try simp only [go_sem, seval, List.length_map, k4, k8, k12, m4, m8, m0, m12]); exact NW) : Imp P Q := g
set_option maxHeartbeats 1600000 in
open NHk1 NY in
theorem Ld (b : List UInt8) (hb9 : b.length ≤ 1099511627776) (H : Heap) (n : Nat) : Ret prog 97 [bys b, .int .i64 0] H n (.tup [bys (rfQ b).1, .int .i64 (rfQ b).2.1, .int .i64 (rfQ b).2.2]) H n := by
 obtain ⟨N, hNd⟩ : ∃ N, N = numB 0 ((b.drop 0).take 4) := ⟨_, rfl⟩
 have hrf : rfQ b = rfN b N := by
   unfold rfQ
   by_cases h : 4 ≤ b.length
   ·rw [hd4_num h, hNd]
   ·unfold rfN; rw [if_pos om, if_pos om]
 rw [hrf]
 clear hrf
 have hNl : N < 4294967296 := by
   have h1 := MW ((b.drop 0).take 4) 0
   have h2 : 256 ^ ((b.drop 0).take 4).length ≤ 256 ^ 4 := Nat.pow_le_pow_right om (by rw [List.length_take]; omega)
   rw [hNd]; unfold numB; omega
 have k4 : IntKind.i64.wrap 4 = 4 := odc
 have k8 : IntKind.i64.wrap 8 = 8 := odc
 have k12 : IntKind.i64.wrap 12 = 12 := odc
 have m4 : (4 : Int).toNat = 4 := rfl
 have m8 : (8 : Int).toNat = 8 := rfl
 have m0 : (0 : Int).toNat = 0 := rfl
 have m12 : (12 : Int).toNat = 12 := rfl
 refine Ret.fin ?_
 refine fw func97 ntmps97 results97 ?_
 refine kb1 ?_
 refine Zb fun K1 hK1 => ?_
 refine rc zs [0, 1, 11] func132 ((V3 b 0 _ _)) ?_
 refine Za ?_ ?_ <;> intro hb
 ·exact kcQ
 refine kay ?_
 refine Zb fun K2 hK2 => ?_
 refine rg zs [0, 1, 16] ?_
 refine Za ?_ ?_ <;> intro hb
 ·have h8 : b.length < 8 := by have := of_decide_eq_true hb; rw [w64 om om] at this; omega
  have hw : rfN b N = ([], 0, 10) := by unfold rfN; rw [if_pos h8]
  exact kaf
 have h8 : 8 ≤ b.length := by have := of_decide_eq_false hb; rw [w64 om om] at this; omega
 have e2 : List.take 4 (b.map Zd) = (b.take 4).map Zd := by rw [List.map_take]
 have e3 : List.drop 4 (List.take 8 (b.map Zd)) = ((b.drop 4).take 4).map Zd := by rw [List.drop_take, ← List.map_drop, ← List.map_take]
 refine kaQ ?_
 refine Zb fun K3 hK3 => ?_
 refine X3 rfl zs [0, 1, 30] [.m, .m, .m, .q, .q, .c, .m, .m, .q, .m, .q, .q, .c, .q] [0, 1, 2, 3, 4, 5, 6, 7, 8, 9, 10, 11, 12, 13] [0, 1, 2, 3, 4, 5, 6, 7, 8, 9, 10, 11, 12, 13] (by kernel_rfl) (fun _ _ _ _ _ h => h) fun K V => ?_
 refine kbt ?_
 repeat (first | (refine And.intro ?_ ?_; · first | exact ⟨om, fun m h => h.elim⟩) | refine peel ?_)
 refine Yr func133 rfl rfl rfl (fun _ n => (Vb (b.take 4) (by rw [List.length_take]; omega) _ _)) ?_
 refine kbt ?_
 repeat (first | (refine And.intro ?_ ?_; · first | exact ⟨om, fun m h => h.elim⟩) | refine peel ?_)
 refine Yr func46 rfl rfl rfl (fun _ n => (Y9 (lowB (sumF [b.take 4])) ((b.drop 4).take 4) _ _)) ?_
 refine kbt ?_
 refine kad ?_
 refine Za ?_ ?_ <;> intro hb
 ·have hs1 : (lowB (sumF [b.take 4]) == (b.drop 4).take 4) = false := osb
  have hw : rfN b N = ([], 0, 12) := by unfold rfN; rw [if_neg om, if_pos (by rw [BEq.comm]; exact hs1)]
  exact kaf
 have hs1 : (lowB (sumF [b.take 4]) == (b.drop 4).take 4) = true := osb
 have hs2 : ¬ ((b.drop 4).take 4 == lowB (sumF [b.take 4])) = false := by rw [BEq.comm, hs1]; simp
 have eN : IntKind.i64.wrap (N : Int) = (N : Int) := w64 om om
 refine kba ?_
 refine Zg zs [0, 1, 7] fun K V => ?_
 try simp only [go_sem, seval, List.length_map, k4, k8, k12, m4, m8, m0, m12, eN]
 repeat refine peel ?_
 refine Zq func134 rfl rfl rfl ((hNd ▸ c_ref1_number b hb9 0 4 om om _ _)) ?_
 try simp only [go_sem, seval, List.length_map, k4, k8, k12, m4, m8, m0, m12, eN]
 refine kad ?_
 refine Zb fun K4 hK4 => ?_
 refine rg zs [0, 1, 7, 36] ?_
 refine Za ?_ ?_ <;> intro hb
 ·have hw : rfN b N = ([], 0, 13) := by unfold rfN; rw [if_neg om, if_neg hs2, if_pos ott]
  exact kaf
 have hN2 : ¬ 1048576 < N := otf
 have j0 : IntKind.i64.wrap ((b.length : Int) - 0) = (b.length : Int) := by rw [w64 om om]; omega
 have j1 : IntKind.i64.wrap ((b.length : Int) - 8) = ((b.length - 8 : Nat) : Int) := by rw [w64 om om]; omega
 have j2 : IntKind.i64.wrap ((N : Int) + 4) = ((N + 4 : Nat) : Int) := by rw [w64 om om]; omega
 have j3 : IntKind.i64.wrap (8 + (N : Int)) = ((8 + N : Nat) : Int) := by rw [w64 om om]; omega
 have j4 : IntKind.i64.wrap (12 + (N : Int)) = ((8 + N + 4 : Nat) : Int) := by rw [w64 om om]; omega
 refine kb3 ?_
 refine Zb fun K5 hK5 => ?_
 refine Zg zs [0, 1, 7, 44] fun K V => ?_
 try simp only [go_sem, seval, List.length_map, k4, k8, k12, m4, m8, m0, m12, j0, j1, j2]
 refine kad ?_
 refine Za ?_ ?_ <;> intro hb
 ·have hw : rfN b N = ([], 0, 10) := by unfold rfN; rw [if_neg om, if_neg hs2, if_neg hN2, if_pos ott]
  exact kaf
 have hL : ¬ b.length - 8 < N + 4 := otf
 have e5 : (b.take (8 + N)).drop 8 = (b.drop 8).take N := by rw [List.drop_take]; congr 1; omega
 have e6 : List.drop (8 + N) (List.take (8 + N + 4) (b.map Zd)) = ((b.drop (8 + N)).take 4).map Zd := by rw [List.drop_take, ← List.map_drop, ← List.map_take]; congr 2; omega
 refine ak ?_
 apply hK5
 refine Zg zs [0, 1, 7, 8] fun K V => ?_
 try simp only [go_sem, seval, List.length_map, k4, k8, k12, m4, m8, m0, m12, j3]
 repeat refine peel ?_
 refine Zq func58 rfl rfl rfl ((e5 ▸ Uk b hb9 8 (8 + N) om om _ _)) ?_
 try simp only [go_sem, seval, List.length_map, k4, k8, k12, m4, m8, m0, m12, j3]
 refine kad ?_
 refine Zb fun K6 hK6 => ?_
 refine X3 rfl zs [1, 7, 8, 66] [.m, .c, .m, .m, .q, .m, .q, .m, .q, .m, .q, .q, .c, .q] [0, 1, 2, 3, 4, 5, 6, 7, 8, 9, 10, 11, 12, 13] [0, 1, 2, 3, 4, 5, 6, 7, 8, 9, 10, 11, 12, 13] (by kernel_rfl) (fun _ _ _ _ _ h => h) fun K V => ?_
 refine kbJ ?_
 repeat refine peel ?_
 refine Yr func133 rfl rfl rfl (fun _ n => (Vb ((b.drop 8).take N) (by rw [List.length_take]; omega) _ _)) ?_
 refine kbJ ?_
 repeat (first | (refine And.intro ?_ ?_; · first | exact ⟨om, om, om, fun m h => h.elim⟩) | refine peel ?_)
 refine Yr func46 rfl rfl rfl (fun _ n => (Y9 (lowB (sumF [(b.drop 8).take N])) ((b.drop (8 + N)).take 4) _ _)) ?_
 refine kbJ ?_
 refine kad ?_
 refine Za ?_ ?_ <;> intro hb
 ·have hs3 : (lowB (sumF [(b.drop 8).take N]) == (b.drop (8 + N)).take 4) = false := osb
  have hw : rfN b N = ([], 0, 12) := by unfold rfN; rw [if_neg om, if_neg hs2, if_neg hN2, if_neg hL, if_pos (by rw [BEq.comm]; exact hs3)]
  exact kaf
 have hs3 : (lowB (sumF [(b.drop 8).take N]) == (b.drop (8 + N)).take 4) = true := osb
 have hw : rfN b N = ((b.drop 8).take N, ((8 + N + 4 : Nat) : Int), 0) := by unfold rfN; rw [if_neg om, if_neg hs2, if_neg hN2, if_neg hL, if_neg (by rw [BEq.comm, hs3]; simp)]
 refine ak ?_
 apply hK6
 refine Zg zs [4, 5, 6] fun K V => ?_
 try simp only [go_sem, seval, List.length_map, k4, k8, k12, m4, m8, m0, m12, j4]
 refine kad ?_
 refine ar ?_
 rw [hw]
 exact ⟨_, rfl, .kl ⟨Xd _ _, trivial, trivial, trivial⟩⟩
theorem NHl0.eqs {P Q : Prop} (g : Imp P Q := by (try simp only [go_sem, seval, hsz, hag, hmo, f1, f2, f3, f4, g1, r1, r2, Yj, Z0, List.length_map]); exact NW) : Imp P Q := g
theorem NHl0.sd {P : Prop} (g : P := by first | exact ⟨Nat.le_refl _, Nat.le_refl _, .inr trivial, om, om⟩ | exact ⟨rfl, by (simp [AV.sz, AV.memOK]; first | done | fail)⟩ | fail) : P := g
open NHl0 NZ in
theorem Ji (q : QryE) (hq : q.fine) (time : Int) (row : List UInt8) (hr : row.length ≤ 256) (H : Heap) (n : Nat) : Ret prog 91 [Ze q, .int .i64 time, bys row] H n (bys (tokB q time row)) H n := by
 have hsz : (Ze q).sz = 10 := ZH q
 have hag : (Ze q).isAgg = true := rfl
 have hmo : (Ze q).memOK = true := rfl
 have r1 := hsz
 have r2 := hsz
 have g1 := hsz
 have hy := Zo (v := row.length) om
 have hz : (Zn row).length = (Zh row.length).length + row.length := by simp [Zn]
 have hy2 := Zo (Yc time)
 have hy3 := Zo (Yc (sumF [XL q]))
 have f1 : (n = n + 1) = False := osi
 have f2 : (n + 1 = n) = False := osi
 have f3 : (n + 1 = n + 2) = False := osi
 have f4 : (n = n + 2) = False := osi
 refine Ret.fin ?_
 refine fw func91 ntmps91 results91 ?_
 refine rg zs [1, 2, 3] ?_
 refine rc zs [2, 3, 7] func125 ((Xz (u64 time) (Yc _) _ _)) ?_
 refine rk zs [3, 7] fun K V => ?_
 refine ck func126 ((Ws row om _ _)) ?_
 refine kas ?_
 refine ZU (fun H' n' => H' n = some (.arr 0 10 [Ze q]) ∧ H' (n + 1) = some (.arr ((Zh (u64 time)).length + 1) 1 ((Zh (u64 time) ++ Zn row).map Zd)) ∧ (∀ k, k < n → H' k = H k) ∧ n + 3 ≤ n') ⟨by (try simp only [NV]); simp, by rw [NU, List.map_append], fun k hk => oh, om⟩ fun H1 m ⟨r1, r2, hl1, hm⟩ => ?_
 refine kbS ?_
 have g1 : (n + 1 = m) = False := oz
 have hbl : (Zh (u64 time) ++ Zn row).length ≤ 300 := by rw [List.length_append]; omega
 have e9 : List.take (Zh (u64 time) ++ Zn row).length (List.map Zd (Zh (u64 time) ++ Zn row)) = List.map Zd (Zh (u64 time) ++ Zn row) := Yj _
 refine rk zs [7, 8] fun K V => ?_
 refine ck func128 ((c_ref13_form q hq.frm hq.to hq.fams hq.pre hq.whr _ _)) ?_
 refine ck func127 ((NA [XL q] osi (fun x hx => by rw [List.mem_singleton.1 hx]; have := formB_len hq; omega) _ _)) ?_
 refine kas ?_
 refine Zg zs [7] fun K V => ?_
 try simp only [go_sem, seval, hsz, hag, hmo, f1, f2, f3, f4, g1, r1, r2, Yj, Z0, List.length_map, e9]
 repeat refine peel ?_
 refine Zq func125 rfl rfl rfl ((Xz (u64 (sumF [XL q])) (Yc _) _ _)) ?_
 try simp only [go_sem, seval, hsz, hag, hmo, f1, f2, f3, f4, g1, r1, r2, Yj, Z0, List.length_map, e9]
 repeat (first | (refine And.intro ?_ ?_; · first | exact ⟨Nat.le_refl _, Nat.le_refl _, .inr trivial, om, om⟩) | refine peel ?_)
 refine kas ?_
 refine rk zs [9] fun K V => ?_
 rw [← List.length_append, ← List.map_append]
 refine Zq func129 rfl rfl rfl (Ret.frzK (args := [.osl (n + 1) ((Zh (u64 time)).length + 2) 0 (Zh (u64 time) ++ Zn row ++ Zh (u64 (sumF [XL q]))).length]) (args' := [bys (Zh (u64 time) ++ Zn row ++ Zh (u64 (sumF [XL q])))]) (n + 1) (NU _ _ _) ⟨fz_bys _, trivial⟩ (c_ref1_Frame (Zh (u64 time) ++ Zn row ++ Zh (u64 (sumF [XL q]))) (by rw [List.length_append]; omega) _ _)) ?_
 refine nz ?_
 refine kas ?_
 refine rg zs [6] ?_
 refine ar ?_
 exact ⟨_, rfl, fun k hk => ohx (hl1 k hk), .kl (ZM (tokB q time row) _)⟩
theorem head_num {n : Nat} (h : n < 4294967296) : numB 0 (Y4 n) = n := by
 have hb : ∀ x : Nat, (Z9 (x : Int)).toNat = x % 256 := fun x => by rw [Lj]; simp
 show 256 * (256 * (256 * (256 * 0 + (Z9 ((n : Int) / 16777216)).toNat) + (Z9 ((n : Int) / 65536)).toNat) + (Z9 ((n : Int) / 256)).toNat) + (Z9 (n : Int)).toNat = n
 rw [show (n : Int) / 16777216 = ((n / 16777216 : Nat) : Int) by omega, show (n : Int) / 65536 = ((n / 65536 : Nat) : Int) by omega, show (n : Int) / 256 = ((n / 256 : Nat) : Int) by omega, hb, hb, hb, hb]
 omega
theorem frame_end {b : List UInt8} (hb : b.length ≤ 1048576) (h : (rfQ (X5 b)).2.2 = 0) : (rfQ (X5 b)).2.1 = ((X5 b).length : Int) := by
 have hl : (X5 b).length = 12 + b.length := by unfold X5; simp only [List.length_append]; show 4 + 4 + b.length + 4 = _; omega
 have hN : hd4 (X5 b) = b.length := by
   rw [hd4_num om, List.drop_zero]
   have : (X5 b).take 4 = Y4 b.length := by unfold X5; rw [List.append_assoc, List.append_assoc]; rfl
   rw [this, head_num om]
 unfold rfQ at h ⊢
 rw [hN] at h ⊢
 unfold rfN at h ⊢
 split at h
 ·exact absurd h odc
 split at h
 ·exact absurd h odc
 split at h
 ·exact absurd h odc
 split at h
 ·exact absurd h odc
 split at h
 ·exact absurd h odc
 rename_i h1 h2 h3 h4 h5
 rw [if_neg h1, if_neg h2, if_neg h3, if_neg h4, if_neg h5, hl]
 simp only; omega
def KU (q : QryE) : AV := .agg [.bool (decide (q.token.length ≠ 0 ∧ (ZW q).2.2 = 0)), .int .i64 (ZW q).1, bys (ZW q).2.1]
theorem NHl1.eqs {P Q : Prop} (g : Imp P Q := by (try simp only [go_sem, seval, hsz, hag, hmo, f1, f2, ruAV, rbAV, Ze, Zt, bys, List.length_map, Z0, hx]); exact NW) : Imp P Q := g
set_option maxHeartbeats 3200000 in
open NHl1 NY in
theorem Wx (q : QryE) (hq : q.fine) (ht : -9223372036854775808 ≤ q.time ∧ q.time < 9223372036854775808) (H : Heap) (n : Nat) : Ret prog 60 [Ze q] H n (.tup [KU q, .int .i64 (ZW q).2.2]) H n := by
 have hsz : (Ze q).sz = 10 := ZH q
 have hag : (Ze q).isAgg = true := rfl
 have hmo : (Ze q).memOK = true := rfl
 have hTu : ∀ v : Nat, v ≤ 1099511627776 → (v ≠ u64 q.time ↔ (v : Int) ≠ q.time) := fun v hv => by
   unfold u64
   constructor
   ·intro h e; exact h (by rw [← e]; omega)
   ·intro h e; exact h om
 unfold KU
 obtain ⟨z, hz⟩ : ∃ z, z = ZW q := ⟨_, rfl⟩
 rw [← hz]
 unfold ZW at hz
 have hfl := rfQ_len q.token
 have htl := hq.token
 have hend : ∀ u row, (rfQ q.token).2.2 = 0 → row.length ≤ 256 → (tokB q u row == q.token) = true → (rfQ q.token).2.1 = (q.token.length : Int) := fun u row h0 hr he => by
   have e : tokB q u row = q.token := by simpa using he
   have h1 := Zo (Yc u)
   have h2 := Zo (v := row.length) om
   have h3 := Zo (Yc (sumF [XL q]))
   rw [← e] at h0 ⊢
   exact frame_end (by simp only [List.length_append, Zn]; omega) h0
 obtain ⟨fr, hfr⟩ : ∃ f, f = rfQ q.token := ⟨_, rfl⟩
 rw [← hfr] at hz hfl hend
 obtain ⟨hu1, hu2, hu3⟩ := ruB_lt fr.1 0
 obtain ⟨u, hu⟩ : ∃ u, u = ruB fr.1 0 := ⟨_, rfl⟩
 rw [← hu] at hz hu1 hu2 hu3
 have hbm := ML fr.1 u.2.1 256
 obtain ⟨rb, hrb⟩ : ∃ b, b = rbB fr.1 u.2.1 256 := ⟨_, rfl⟩
 rw [← hrb] at hz hbm
 have hx := hsz
 have hxT : u.1 ≤ 1099511627776 → IntKind.i64.wrap (u.1 : Int) = (u.1 : Int) := fun h => w64 om om
 have f1 : (n = n + 1) = False := osi
 have f2 : (n + 1 = n) = False := osi
 refine Ret.fin ?_
 refine fw func60 ntmps60 results60 ?_
 refine rg zs [1, 2] ?_
 refine Zb fun K1 hK1 => ?_
 refine rg zs [1, 2, 14] ?_
 refine Za ?_ ?_ <;> intro hb
 ·have h0 : q.token.length = 0 := by have h9 := hb; simp at h9; simp [h9]
  rw [if_pos h0] at hz
  have hzz : z = (0, [], 0) := hz
  exact kaE
 have h0 : ¬ q.token.length = 0 := by have h9 := hb; simp at h9; simp [h9]
 rw [if_neg h0] at hz
 refine kay ?_
 refine rk zs [1, 2, 4, 5, 6] fun K V => ?_
 refine ck func97 ((hfr ▸ Ld q.token om _ _)) ?_
 refine kas ?_
 refine Zb fun K2 hK2 => ?_
 refine rg zs [1, 2, 4, 31] ?_
 refine Za ?_ ?_ <;> intro hb
 ·have hc1 : fr.2.2 ≠ 0 ∨ fr.2.1 ≠ (q.token.length : Int) := by by_cases h : fr.2.2 = 0; (right; rw [h] at hb; simpa using hb); exact .inl h
  have hzz : z = (0, [], 132) := by
    rw [hz]
    split; rfl; split; rfl; split; rfl
    rename_i a1 a2 a3
    exfalso
    have a1 : fr.2.2 = 0 := by simpa using a1
    refine hc1.elim (fun h => h a1) (fun h => h (hend (u.1 : Int) rb.1 a1 (by simpa using hbm) ?_))
    cases e : (tokB q (u.1 : Int) rb.1 == q.token) with
    | true => rfl
    | false => exact absurd (.inr (.inr (.inr e))) a3
  exact kaE
 have hc1 : fr.2.2 = 0 := by by_cases h : fr.2.2 = 0; exact h; (rw [show (fr.2.2 != 0) = true by simpa using h] at hb; cases hb)
 rw [if_neg (by simp [hc1])] at hz
 refine kaQ ?_
 refine rk zs [1, 2, 4, 6, 7, 8] fun K V => ?_
 refine ck func98 ((hu ▸ Qc fr.1 0 om om _ _)) ?_
 refine kas ?_
 refine Zb fun K3 hK3 => ?_
 refine rg zs [1, 2, 4, 7, 8, 60] ?_
 refine Za ?_ ?_ <;> intro hb
 ·have hc : u.2.2 ≠ 0 ∨ u.1 < 1 ∨ 1099511627776 < u.1 ∨ (q.time ≠ 0 ∧ u.1 ≠ u64 q.time) := by
    by_cases c1 : u.2.2 = 0 <;> by_cases c2 : u.1 < 1 <;> by_cases c3 : 1099511627776 < u.1
    all_goals first | exact .inl c1 | exact .inr (.inl c2) | exact .inr (.inr (.inl c3)) | skip
    have := hxT om
    have c5 := hTu u.1 om
    simp [c1, this] at hb
    exact .inr (.inr (.inr ⟨om, c5.2 om⟩))
  have hzz : z = (0, [], 132) := by rw [hz, if_pos hc]
  refine rg zs [2, 3] ?_
  refine ar ?_
  rw [hzz]
  exact ⟨_, rfl, fun k hk => oh, .tup (.cons (.agg (.cons (XV (by simp [h0])) (.cons (.kl trivial) (.cons .nilsl .nil)))) (.cons (.kl trivial) .nil))⟩
 have hc : ¬ (u.2.2 ≠ 0 ∨ u.1 < 1 ∨ 1099511627776 < u.1 ∨ (q.time ≠ 0 ∧ u.1 ≠ u64 q.time)) := by
   rintro (c1 | c1 | c1 | ⟨c1, c2⟩)
   ·rw [show (u.2.2 != 0) = true by simpa using c1] at hb; simp at hb
   ·simp [show decide ((u.1 : Int) < 1) = true from decide_eq_true om] at hb
   ·exact kcO
   ·by_cases c3 : u.1 ≤ 1099511627776
    ·have c5 := (hTu u.1 c3).1 c2; simp [hxT c3, c1, c5] at hb
    ·exact kcO
 rw [if_neg hc] at hz
 have hx : IntKind.i64.wrap (u.1 : Int) = (u.1 : Int) := hxT om
 refine kba ?_
 refine rk zs [1, 2, 6, 7, 9] fun K V => ?_
 refine ck func99 ((hrb ▸ Le fr.1 u.2.1 256 om om om _ _)) ?_
 refine kas ?_
 refine Zb fun K4 hK4 => ?_
 refine dx zs [2, 7, 9, 92] [.m, .q, .m, .m, .q, .q, .q, .m, .q, .m, .c, .q, .q, .m, .q, .m, .q, .m, .c, .q, .q, .c, .q, .q] [0, 1, 2, 3, 4, 5, 6, 7, 8, 9, 10, 11, 12, 13, 14, 15, 16, 17, 18, 19, 20, 21, 22, 23] [0, 1, 2, 3, 4, 5, 6, 7, 8, 9, 10, 11, 12, 13, 14, 15, 16, 17, 18, 19, 20, 21, 22, 23] fun K V => ?_
 refine cq func89 (fun _ n => (QA q rb.1 _ _)) ?_
 refine cq func91 (fun _ n => (Ji q hq u.1 rb.1 hbm _ _)) ?_
 refine cq func46 (fun _ n => (Y9 (tokB q u.1 rb.1) q.token _ _)) ?_
 refine kas ?_
 refine Za ?_ ?_ <;> intro hb
 ·have hc2 : rb.2.2 ≠ 0 ∨ rb.1.length = 0 ∨ Wi q rb.1 = false ∨ (tokB q u.1 rb.1 == q.token) = false := by grind
  have hzz : z = (0, [], 132) := by rw [hz, if_pos hc2]
  exact kaE
 have hc2 : ¬ (rb.2.2 ≠ 0 ∨ rb.1.length = 0 ∨ Wi q rb.1 = false ∨ (tokB q u.1 rb.1 == q.token) = false) := by grind
 have hzz : z = (((u.1 : Nat) : Int), rb.1, 0) := by rw [hz, if_neg hc2]
 refine kb3 ?_
 refine rg zs [2, 3] ?_
 refine ar ?_
 rw [hzz]
 exact ⟨_, rfl, fun k hk => oh, .tup (.cons (.agg (.cons (XV (by simp [h0])) (.cons (.kl trivial) (.cons (.kl (Xd _ _)) .nil)))) (.cons (.kl trivial) .nil))⟩
theorem KZ {nf : Nat} {q : QryE} (h : Xi nf q = true) : 0 ≤ q.time ∧ q.time ≤ 1099511627776 := by
 unfold Xi Nf at h
 simp only [Bool.and_eq_true, decide_eq_true_eq] at h
 exact ⟨h.2.1.1.1.1.1.2, h.2.1.1.1.1.2⟩
theorem where_rel {fs : List Fml} (h : Zx fs = 0) (t : List UInt8) : ((0 ≤ (WF fs t).2) ↔ (Xm fs t).2.1 ≠ 0) ∧ (0 ≤ (WF fs t).2 → (Xm fs t).2.1 = 131) := by
 have hr := readR_rel fs t
 unfold Xm
 rw [if_neg (by simp [h])]
 cases hp : Wp fs t with
 | ok x => rw [hp] at hr; rw [hr.1]; simp
 | error p => rw [hp] at hr; have hr : (WF fs t).2 = p := hr; rw [hr]; simp
theorem NHl2.eqs {P Q : Prop} (g : Imp P Q := by (try simp only [go_sem, seval, hsz, hag, hmo, hszs, hags, hmos, f1, f2, hA, hB, Zf, Ze, Zt, bys, List.length_map, YQ, YJ, Yp, Z7]); exact NW) : Imp P Q := g
set_option maxHeartbeats 1600000 in
open NHl2 NY in
theorem c_ref13_Check (fs : List Fml) (hfs : fs.length ≤ 1048576) (q : QryE) (hq : q.fine) (H : Heap) (n : Nat) : Ret prog 38 [Zf fs, Ze q] H n (.int .i64 (qcE fs q)) H n := by
 have hsz : (Ze q).sz = 10 := ZH q
 have hag : (Ze q).isAgg = true := rfl
 have hmo : (Ze q).memOK = true := rfl
 have hszs : (Zf fs).sz = 1 := rfl
 have hags : (Zf fs).isAgg = true := rfl
 have hmos : (Zf fs).memOK = true := rfl
 have hms : (KU q).sz = 3 := rfl
 obtain ⟨z, hz⟩ : ∃ z, z = qcE fs q := ⟨_, rfl⟩
 rw [← hz]
 unfold qcE at hz
 have f1 : (n = n + 1) = False := osi
 have f2 : (n + 1 = n) = False := osi
 have hA := hsz
 have hB := hsz
 refine Ret.fin ?_
 refine fw func38 ntmps38 results38 ?_
 refine rg zs [2, 3] ?_
 refine rc zs [2, 3, 5] func69 ((JF fs _ _)) ?_
 refine ZZ [2, 3, 5] (fun T' H' n' => ∃ e : Int, e = (if Zx fs ≠ 0 then Zx fs else if Xi fs.length q then 0 else 130) ∧ T' = tl [(2, .loc n 0 0 0 []), (3, .loc (n + 1) 0 0 0 []), (5, .int .i64 e)] ∧ H' n = some (.arr 0 1 [Zf fs]) ∧ H' (n + 1) = some (.arr 0 10 [Ze q]) ∧ (∀ k, k < n → H' k = H k) ∧ n' = n + 2) ?_ ?_
 ·refine rg zs [2, 3, 5, 11] ?_
  refine Za ?_ ?_ <;> intro hb
  ·have hs0 : Zx fs = 0 := osb
   have he0 : ∀ a b : Int, (if Zx fs ≠ 0 then a else b) = b := fun a b => if_neg (by simp [hs0])
   refine rc1 zs [2, 3, 5] func70 ((NF fs hfs q hq.fams _ _)) ?_
   refine ns ?_
   exact ⟨_, (he0 _ _).symm, rfl, fun k hk => onn⟩
  have hs0 : Zx fs ≠ 0 := osb
  have he0 : ∀ a b : Int, (if Zx fs ≠ 0 then a else b) = a := fun a b => if_pos hs0
  refine ak ?_
  refine ns ?_
  exact ⟨_, (he0 _ _).symm, rfl, fun k hk => onn⟩
 rintro T1 H1 n1 ⟨e, he, rfl, hA, hB, hlow, rfl⟩
 refine Zb fun K1 hK1 => ?_
 refine rg zs [2, 3, 5, 16] ?_
 refine Za ?_ ?_ <;> intro hb
 ·have hz2 : z = e := by
    rw [hz, he]; rw [he] at hb
    by_cases h1 : Zx fs = 0
    ·rw [if_neg (by simp [h1])] at hb
     have h2 : Xi fs.length q = false := by cases h2 : Xi fs.length q; rfl; (rw [h2] at hb; simp at hb)
     rw [if_neg (by simp [h1]), if_pos h2, if_neg (by simp [h1]), if_neg (by simp [h2])]
    ·rw [if_pos h1, if_pos h1]
  refine rg zs [4] ?_
  refine ar ?_
  rw [← hz2]
  exact ⟨_, rfl, fun k hk => by (try simp only [NV]); (repeat first | rw [if_pos rfl] | rw [if_pos trivial] | rw [if_neg om]); first | done | exact hlow k hk, .kl trivial⟩
 have hs1 : Zx fs = 0 ∧ Xi fs.length q = true := by
   rw [he] at hb
   by_cases h1 : Zx fs = 0
   ·rw [if_neg (by simp [h1])] at hb; refine ⟨h1, ?_⟩; cases h2 : Xi fs.length q; (rw [h2] at hb; simp at hb); rfl
   ·rw [if_pos h1] at hb; simp at hb; exact absurd hb h1
 rw [if_neg (by simp [hs1.1]), if_neg (by simp [hs1.2])] at hz
 refine kay ?_
 refine Zb fun K2 hK2 => ?_
 refine rg zs [2, 3, 20] ?_
 refine Za ?_ ?_ <;> intro hb
 ·have hw0 : 0 < q.whr.length := by have h9 := hb; simp at h9; exact List.length_pos_iff.2 h9
  refine rc zs [3, 7] func71 ((Kl fs hfs q.whr _ _)) ?_
  refine rg zs [3, 29] ?_
  refine Za ?_ ?_ <;> intro hb
  ·have hz2 : z = 131 := by have h9 := of_decide_eq_true hb; obtain ⟨w1, w2⟩ := where_rel hs1.1 q.whr; rw [hz, if_pos ⟨hw0, w1.1 h9⟩]; exact w2 h9
   refine kag ?_
   rw [← hz2]
   exact kaO
  have h29 := of_decide_eq_false hb
  rw [if_neg (fun h => h29 ((where_rel hs1.1 q.whr).1.2 h.2))] at hz
  refine kaQ ?_
  refine rk zs [5] fun K V => ?_
  refine ck func60 ((Wx q hq (by have := KZ hs1.2; omega) _ _)) ?_
  refine kas ?_
  refine kag ?_
  rw [hz]
  exact kaO
 have hw0 : q.whr.length = 0 := by have h9 := hb; simp at h9; simp [h9]
 rw [if_neg om] at hz
 refine kaQ ?_
 refine rk zs [5] fun K V => ?_
 refine ck func60 ((Wx q hq (by have := KZ hs1.2; omega) _ _)) ?_
 refine kas ?_
 refine kag ?_
 rw [hz]
 exact kaO
open N0 in
theorem WW (s : List UInt8) (c : Int) (H : Heap) (n : Nat) : Ret prog 144 [.str s, .int .i64 c] H n (.bool (byS s c)) H n := by
 unfold byS
 refine fw func144 ntmps144 results144 ?_
 refine kb1 ?_
 refine Zb fun K1 hK1 => ?_
 refine rg zs [1, 5] ?_
 refine kbM ?_
 refine rg zs [1, 5, 6] ?_
 refine Za ?_ ?_ <;> intro hb
 ·have p1 : s = [61] := osb
  refine kag ?_
  rw [if_pos p1]; done
 have p1 : ¬ s = [61] := osb
 refine rg zs [1, 5, 10] ?_
 refine Za ?_ ?_ <;> intro hb
 ·have p2 : s = [33, 61] := osb
  refine kag ?_
  rw [if_neg p1, if_pos p2]; done
 have p2 : ¬ s = [33, 61] := osb
 refine rg zs [1, 5, 14] ?_
 refine Za ?_ ?_ <;> intro hb
 ·have p3 : s = [60] := osb
  refine kag ?_
  rw [if_neg p1, if_neg p2, if_pos p3]; done
 have p3 : ¬ s = [60] := osb
 refine rg zs [1, 5, 18] ?_
 refine Za ?_ ?_ <;> intro hb
 ·have p4 : s = [60, 61] := osb
  refine kag ?_
  rw [if_neg p1, if_neg p2, if_neg p3, if_pos p4]; done
 have p4 : ¬ s = [60, 61] := osb
 refine rg zs [1, 22] ?_
 refine Za ?_ ?_ <;> intro hb
 ·have p5 : s = [62] := osb
  refine kag ?_
  rw [if_neg p1, if_neg p2, if_neg p3, if_neg p4, if_pos p5]; done
 have p5 : ¬ s = [62] := osb
 refine kay ?_
 refine kag ?_
 rw [if_neg p1, if_neg p2, if_neg p3, if_neg p4, if_neg p5]; done
theorem cb_vals : ∀ a b : List UInt8, Lib.compareBytes a b = -1 ∨ Lib.compareBytes a b = 0 ∨ Lib.compareBytes a b = 1
 | [], [] => by simp [Lib.compareBytes]
 | [], _ :: _ => by simp [Lib.compareBytes]
 | _ :: _, [] => by simp [Lib.compareBytes]
 | a :: l, b :: m => by rw [Ki]; split; simp; split; simp; exact cb_vals l m
open N0 in
theorem Jj (a b : List UInt8) (H : Heap) (n : Nat) : Ret prog 145 [.str a, .str b] H n (.int .i64 (Lib.compareBytes a b)) H n := by
 have hv := cb_vals a b
 obtain ⟨e1, e2⟩ := Wh a b
 refine fw func145 ntmps145 results145 ?_
 refine kb1 ?_
 refine bk fun K1 hK1 => ?_
 refine rg zs [0, 1, 5] ?_
 refine Za ?_ ?_ <;> intro hb
 ·have p1 : Lib.compareBytes a b = -1 := by rw [e2] at hb; have := of_decide_eq_true hb; omega
  refine kag ?_
  rw [p1]
 have p1 : ¬ Lib.compareBytes a b < 0 := by rw [e2] at hb; exact of_decide_eq_false hb
 refine rg zs [9] ?_
 refine Za ?_ ?_ <;> intro hb
 ·have p2 : Lib.compareBytes a b = 1 := by have h0 : Lib.compareBytes a b ≠ 0 := (fun e => by rw [e1.1 e] at hb; simp at hb); omega
  refine kag ?_
  rw [p2]
 have p2 : Lib.compareBytes a b = 0 := by rw [e2, decide_eq_false p1] at hb; simp at hb; exact e1.2 hb
 refine kay ?_
 refine kag ?_
 rw [p2]
theorem famIx_get : ∀ (l : List Fml) (w : List UInt8) (k : Nat), Xj l w k = -1 ∨ ∃ i, i < l.length ∧ Xj l w k = ((i + k : Nat) : Int) ∧ (l.getD i default).name = w
 | [], w, k => .inl rfl
 | f :: l, w, k => by
   unfold Xj
   by_cases h : f.name = w
   ·rw [if_pos h]; exact .inr ⟨0, osi, osi, by simpa using h⟩
   ·rw [if_neg h]
    rcases famIx_get l w (k + 1) with h1 | ⟨i, h1, h2, h3⟩
    ·exact .inl h1
    ·exact .inr ⟨i + 1, oz, by rw [h2]; omega, by simpa using h3⟩
theorem Nj (all : List Fml) : ∀ (l : List Fml) (k : Nat), X0 all l k = false → ∀ i, i < l.length → Vp all (l.getD i default) (i + k) = false
 | [], _, _, i, hi => by simp at hi
 | f :: l, k, h, i, hi => by
   unfold X0 at h
   rw [Bool.or_eq_false_iff] at h
   cases i with
   | zero => simpa using h.1
   | succ i => have := Nj all l (k + 1) h.2 i (by simpa using hi); rw [show i + 1 + k = i + (k + 1) by omega]; simpa using this
theorem schema_ix {fs : List Fml} (h : Zx fs = 0) {i : Nat} (hi : i < fs.length) : famF fs (fs.getD i default).name = (i : Int) := by
 unfold Zx at h
 split at h
 ·cases h
 split at h
 ·cases h
 rename_i h1 h2
 have := Nj fs fs 0 (by simpa using h2) i hi
 unfold Vp at this
 simp only [Bool.or_eq_false_iff] at this
 have := this.1.1.2
 unfold famF
 simpa using this
theorem fam_eq {fs : List Fml} (h : Zx fs = 0) {i : Nat} (hi : i < fs.length) {w : List UInt8} (hw : 0 ≤ famF fs w) : ((fs.getD i default).name == w) = (((i : Nat) : Int) == famF fs w) := by
 rw [Bool.eq_iff_iff, beq_iff_eq, beq_iff_eq]
 constructor
 ·intro e; rw [← e]; exact (schema_ix h hi).symm
 ·intro e
  unfold famF at e hw
  rcases famIx_get fs w 0 with h1 | ⟨j, h1, h2, h3⟩
  ·omega
  ·rw [h2] at e; have : i = j := om
   rw [this]; exact h3
instance : Inhabited CR := ⟨CR.none⟩
def Un (fs : List Fml) (x : CelE) (c : CR) : Prop := ∀ (H : Heap) (n : Nat), Ret prog 124 [Zf fs, c.av, Zk x] H n (.bool ((c.tst fs).holds x)) H n
theorem ND10.eqs {P Q : Prop} (g : Imp P Q := by (try simp only [go_sem, seval, hszs, hags, hmos, hsz, hag, hmo, YQ, YJ, Yp, Z7, f1, f2, f3, f4, hnth, e1, r1, r2, r3, Nat.add_assoc, List.length_map, Int.toNat_natCast, Pf, Zk]); exact NW) : Imp P Q := g
set_option maxHeartbeats 3200000 in
open ND10 NY in
theorem c_holds_or (fs : List Fml) (x : CelE) (l : List CR) (hl : l ≠ []) (hll : l.length ≤ 1048576) (h : ∀ c ∈ l, Un fs x c) (s t : List UInt8) (m : Int) : Un fs x (.nd wOr l s t m) := fun H n => by
 have hR : ((CR.nd wOr l s t m).tst fs).holds x = l.any fun c => (c.tst fs).holds x := by
   show (Y8 _ (N9 fs l)).holds x = _
   rw [foldT_or (by rw [Ph]; simpa using hl), Ph]
   simp [Function.comp_def]
 rw [hR]
 unfold CR.av wOr
 rw [Pf]
 have hszs : (Zf fs).sz = 1 := rfl
 have hags : (Zf fs).isAgg = true := rfl
 have hmos : (Zf fs).memOK = true := rfl
 have hsz : (Zk x).sz = 4 := Yn x
 have hag : (Zk x).isAgg = true := rfl
 have hmo : (Zk x).memOK = true := rfl
 have hnth := hsz
 have e1 := hsz
 have f1 : (n = n + 1) = False := osi
 have f2 : (n = n + 2) = False := osi
 have f3 : (n + 1 = n + 2) = False := osi
 have f4 : (n + 1 = n) = False := osi
 have r1 := hsz
 have r2 := hsz
 have r3 := hsz
 refine kaw ?_
 refine Zb fun K1 hK1 => ?_
 refine kaz ?_
 refine Za ?_ ?_ <;> intro hb
 ·refine Zb fun K2 hK2 => ?_
  refine rg zs [3, 4, 5, 7] ?_
  refine kbM ?_
  refine Zp (fun T' H' n' => ∃ i : Nat, i ≤ l.length ∧ (∀ j, j < i → ((l.getD j default).tst fs).holds x = false) ∧ T' = tl [(3, .loc n 0 0 0 []), (4, .loc (n + 1) 0 0 0 []), (5, .loc (n + 2) 0 0 0 []), (7, .int .i64 i)] ∧ H' n = some (.arr 0 1 [Zf fs]) ∧ H' (n + 1) = some (.arr 0 5 [.agg [.str wOr, .sl 5 (l.map CR.av), .str s, .str t, .int .i64 m]]) ∧ H' (n + 2) = some (.arr 0 4 [Zk x]) ∧ (∀ k, k < n → H' k = H k) ∧ n' = n + 3) (fun T' _ _ => l.length - iv (T' 7)) ?_ ?_
  ·exact ⟨0, Nat.zero_le _, fun j hj => om, rfl, ohr, ohr, ohr, fun k hk => oh, rfl⟩
  rintro T1 H1 n1 ⟨i, hi, hfa, rfl, r1, r2, r3, hlow, rfl⟩
  refine Zb fun K3 hK3 => ?_
  refine rg zs [3, 4, 5, 7, 19] ?_
  refine Za ?_ ?_ <;> intro hb
  ·have hci : i < l.length := ott
   have hnth : nth (l.map CR.av) i = (l.getD i default).av := Zr CR.av l i hci
   have hcl := Yo l hci
   have e1 : IntKind.i64.wrap ((i : Int) + 1) = ((i + 1 : Nat) : Int) := w1 om
   refine kba ?_
   refine bk fun K4 hK4 => ?_
   refine dx zs [3, 4, 5, 7, 29] [.q, .q, .q, .m, .q, .q, .q, .c] [0, 1, 2, 3, 4, 5, 6, 7] [0, 1, 2, 3, 4, 5, 6, 7] fun K V => ?_
   refine cq func124 (fun _ n => (h _ hcl _ _)) ?_
   refine kas ?_
   refine Za ?_ ?_ <;> intro hb
   ·have hre : (l.any fun c => (c.tst fs).holds x) = true := by first | (rw [List.any_eq_true]; exact ⟨_, hcl, hb⟩) | (rw [List.all_eq_false]; exact ⟨_, hcl, osb⟩)
    exact kam
   have hno : ((l.getD i default).tst fs).holds x = false := osb
   refine kb3 ?_
   refine rg1 zs [3, 4, 5, 7] ?_
   exact kbT
  have hci : i = l.length := otf
  have hre : (l.any fun c => (c.tst fs).holds x) = false := by
    subst hci
    rw [List.any_eq_false]
    exact kbl
  refine ax ?_
  apply hK2
  exact kam
 exact kaJ
set_option maxHeartbeats 3200000 in
open ND10 NY in
theorem c_holds_and (fs : List Fml) (x : CelE) (l : List CR) (hl : l ≠ []) (hll : l.length ≤ 1048576) (h : ∀ c ∈ l, Un fs x c) (s t : List UInt8) (m : Int) : Un fs x (.nd wAnd l s t m) := fun H n => by
 have hR : ((CR.nd wAnd l s t m).tst fs).holds x = l.all fun c => (c.tst fs).holds x := by
   show (Y8 _ (N9 fs l)).holds x = _
   rw [foldT_and (by rw [Ph]; simpa using hl), Ph]
   simp [Function.comp_def]
 rw [hR]
 unfold CR.av wAnd
 rw [Pf]
 have hszs : (Zf fs).sz = 1 := rfl
 have hags : (Zf fs).isAgg = true := rfl
 have hmos : (Zf fs).memOK = true := rfl
 have hsz : (Zk x).sz = 4 := Yn x
 have hag : (Zk x).isAgg = true := rfl
 have hmo : (Zk x).memOK = true := rfl
 have hnth := hsz
 have e1 := hsz
 have f1 : (n = n + 1) = False := osi
 have f2 : (n = n + 2) = False := osi
 have f3 : (n + 1 = n + 2) = False := osi
 have f4 : (n + 1 = n) = False := osi
 have r1 := hsz
 have r2 := hsz
 have r3 := hsz
 refine kaw ?_
 refine Zb fun K1 hK1 => ?_
 refine kaz ?_
 refine Za ?_ ?_ <;> intro hb
 ·exact kaJ
 refine rg zs [3, 4, 5, 12, 30] ?_
 refine Za ?_ ?_ <;> intro hb
 ·refine Zb fun K2 hK2 => ?_
  refine rg zs [3, 4, 5, 8] ?_
  refine kbM ?_
  refine Zp (fun T' H' n' => ∃ i : Nat, i ≤ l.length ∧ (∀ j, j < i → ((l.getD j default).tst fs).holds x = true) ∧ T' = tl [(3, .loc n 0 0 0 []), (4, .loc (n + 1) 0 0 0 []), (5, .loc (n + 2) 0 0 0 []), (8, .int .i64 i)] ∧ H' n = some (.arr 0 1 [Zf fs]) ∧ H' (n + 1) = some (.arr 0 5 [.agg [.str wAnd, .sl 5 (l.map CR.av), .str s, .str t, .int .i64 m]]) ∧ H' (n + 2) = some (.arr 0 4 [Zk x]) ∧ (∀ k, k < n → H' k = H k) ∧ n' = n + 3) (fun T' _ _ => l.length - iv (T' 8)) ?_ ?_
  ·exact ⟨0, Nat.zero_le _, fun j hj => om, rfl, ohr, ohr, ohr, fun k hk => oh, rfl⟩
  rintro T1 H1 n1 ⟨i, hi, hfa, rfl, r1, r2, r3, hlow, rfl⟩
  refine Zb fun K3 hK3 => ?_
  refine rg zs [3, 4, 5, 8, 36] ?_
  refine Za ?_ ?_ <;> intro hb
  ·have hci : i < l.length := ott
   have hnth : nth (l.map CR.av) i = (l.getD i default).av := Zr CR.av l i hci
   have hcl := Yo l hci
   have e1 : IntKind.i64.wrap ((i : Int) + 1) = ((i + 1 : Nat) : Int) := w1 om
   refine kba ?_
   refine bk fun K4 hK4 => ?_
   refine dx zs [3, 4, 5, 8, 47] [.q, .q, .q, .m, .q, .q, .q, .c, .q] [0, 1, 2, 3, 4, 5, 6, 7, 8] [0, 1, 2, 3, 4, 5, 6, 7, 8] fun K V => ?_
   refine cq func124 (fun _ n => (h _ hcl _ _)) ?_
   refine kas ?_
   refine Za ?_ ?_ <;> intro hb
   ·have hre : (l.all fun c => (c.tst fs).holds x) = false := by first | (rw [List.any_eq_true]; exact ⟨_, hcl, hb⟩) | (rw [List.all_eq_false]; exact ⟨_, hcl, osb⟩)
    exact kam
   have hno : ((l.getD i default).tst fs).holds x = true := osb
   refine kb3 ?_
   refine rg1 zs [3, 4, 5, 8] ?_
   exact kbT
  have hci : i = l.length := otf
  have hre : (l.all fun c => (c.tst fs).holds x) = true := by
    subst hci
    rw [List.all_eq_true]
    exact kbl
  refine ax ?_
  apply hK2
  exact kam
 exact kaJ
theorem ND11.eqs {P Q : Prop} (g : Imp P Q := by (try simp only [go_sem, seval, hszs, hags, hmos, hsz, hag, hmo, YQ, YJ, Yp, Z7, f1, f2, f3, f4, hnth, e1, Nat.add_assoc, List.length_map, Int.toNat_natCast, List.map_cons, List.map_nil, List.length_cons, List.length_nil, Zk]); exact NW) : Imp P Q := g
open ND11 NY in
theorem c_holds_not (fs : List Fml) (x : CelE) (c : CR) (h : Un fs x c) (s t : List UInt8) (m : Int) : Un fs x (.nd wNot [c] s t m) := fun H n => by
 have hR : ((CR.nd wNot [c] s t m).tst fs).holds x = !((c.tst fs).holds x) := rfl
 rw [hR]
 unfold CR.av wNot
 rw [Pf]
 have hszs : (Zf fs).sz = 1 := rfl
 have hags : (Zf fs).isAgg = true := rfl
 have hmos : (Zf fs).memOK = true := rfl
 have hsz : (Zk x).sz = 4 := Yn x
 have hag : (Zk x).isAgg = true := rfl
 have hmo : (Zk x).memOK = true := rfl
 have hnth := hsz
 have e1 := hsz
 have f1 : (n = n + 1) = False := osi
 have f2 : (n = n + 2) = False := osi
 have f3 : (n + 1 = n + 2) = False := osi
 have f4 : (n + 1 = n) = False := osi
 refine kaw ?_
 refine Zb fun K1 hK1 => ?_
 refine kaz ?_
 refine Za ?_ ?_ <;> intro hb
 ·exact kaJ
 refine rg zs [3, 4, 5, 12, 30] ?_
 refine Za ?_ ?_ <;> intro hb
 ·exact kaJ
 refine rg zs [3, 4, 5, 12, 48] ?_
 refine Za ?_ ?_ <;> intro hb
 ·refine dx zs [6] [.q, .q, .q, .q, .q, .q, .c, .q, .q] [0, 1, 2, 3, 4, 5, 6, 7, 8] [0, 1, 2, 3, 4, 5, 6, 7, 8] fun K V => ?_
  refine cq func124 (fun _ n => (h _ _)) ?_
  refine kas ?_
  exact kbx
 exact kaJ
open ND11 NY in
theorem c_holds_in (fs : List Fml) (x : CelE) (c : CR) (h : Un fs x c) (s t : List UInt8) (m : Int) : Un fs x (.nd wIn [c] s t m) := fun H n => by
 have hR : ((CR.nd wIn [c] s t m).tst fs).holds x = (c.tst fs).holds x := rfl
 rw [hR]
 unfold CR.av wIn
 rw [Pf]
 have hszs : (Zf fs).sz = 1 := rfl
 have hags : (Zf fs).isAgg = true := rfl
 have hmos : (Zf fs).memOK = true := rfl
 have hsz : (Zk x).sz = 4 := Yn x
 have hag : (Zk x).isAgg = true := rfl
 have hmo : (Zk x).memOK = true := rfl
 have hnth := hsz
 have e1 := hsz
 have f1 : (n = n + 1) = False := osi
 have f2 : (n = n + 2) = False := osi
 have f3 : (n + 1 = n + 2) = False := osi
 have f4 : (n + 1 = n) = False := osi
 refine kaw ?_
 refine Zb fun K1 hK1 => ?_
 refine kaz ?_
 refine Za ?_ ?_ <;> intro hb
 ·exact kaJ
 refine rg zs [3, 4, 5, 12, 30] ?_
 refine Za ?_ ?_ <;> intro hb
 ·exact kaJ
 refine rg zs [3, 4, 5, 12, 48] ?_
 refine Za ?_ ?_ <;> intro hb
 ·exact kaJ
 refine rg zs [3, 4, 5, 12, 58] ?_
 refine Za ?_ ?_ <;> intro hb
 ·refine dx zs [6] [.q, .q, .q, .q, .q, .q, .c, .q] [0, 1, 2, 3, 4, 5, 6, 7] [0, 1, 2, 3, 4, 5, 6, 7] fun K V => ?_
  refine cq func124 (fun _ n => (h _ _)) ?_
  refine kas ?_
  exact kbx
 exact kaJ
theorem ND12.eqs {P Q : Prop} (g : Imp P Q := by (try simp only [go_sem, seval, hszs, hags, hmos, hsz, hag, hmo, YQ, YJ, Yp, Z7, f1, f2, f3, f4, hn2, hx, YC, Zf, Nat.add_assoc, List.length_map, Int.toNat_natCast, Pf, Zk]); exact NW) : Imp P Q := g
theorem ND12.sd {P : Prop} (g : P := by first | exact ⟨om, om⟩ | fail) : P := g
open ND12 NZ in
theorem c_holds_fam (fs : List Fml) (hfs : Zx fs = 0) (x : CelE) {i : Nat} (hi : i < fs.length) (hx : x.fam = (i : Int)) (s t : List UInt8) (ht : 0 ≤ famF fs t) (m : Int) : Un fs x (.nd wFam [] s t m) := fun H n => by
 have hR : ((CR.nd wFam [] s t m).tst fs).holds x = ((((fs.getD i default).name == t)) == (s == [61])) := by
   rw [fam_eq hfs hi ht]
   show ((x.fam == famF fs t) == (s == [61])) = _
   rw [hx]
 rw [hR]
 unfold CR.av wFam
 have hszs : (Zf fs).sz = 1 := rfl
 have hags : (Zf fs).isAgg = true := rfl
 have hmos : (Zf fs).memOK = true := rfl
 have hsz : (Zk x).sz = 4 := Yn x
 have hag : (Zk x).isAgg = true := rfl
 have hmo : (Zk x).memOK = true := rfl
 have hnth := hsz
 have e1 := hsz
 have f1 : (n = n + 1) = False := osi
 have f2 : (n = n + 2) = False := osi
 have f3 : (n + 1 = n + 2) = False := osi
 have f4 : (n + 1 = n) = False := osi
 have hn2 : nth (fs.map YC) i = YC (fs.getD i default) := Zr YC fs i hi
 refine kaw ?_
 refine Zb fun K1 hK1 => ?_
 refine kaz ?_
 refine Za ?_ ?_ <;> intro hb
 ·exact kaJ
 refine rg zs [3, 4, 5, 12, 30] ?_
 refine Za ?_ ?_ <;> intro hb
 ·exact kaJ
 refine rg zs [3, 4, 5, 12, 48] ?_
 refine Za ?_ ?_ <;> intro hb
 ·exact kaJ
 refine rg zs [3, 4, 5, 12, 58] ?_
 refine Za ?_ ?_ <;> intro hb
 ·exact kaJ
 refine rg zs [3, 4, 5, 12, 67] ?_
 refine Za ?_ ?_ <;> intro hb
 ·refine dx zs [6] [.q, .q, .q, .q, .q, .q, .q, .q, .q, .q, .q, .q, .q, .q, .q] [0, 1, 2, 3, 4, 5, 6, 7, 8, 9, 10, 11, 12, 13, 14] [0, 1, 2, 3, 4, 5, 6, 7, 8, 9, 10, 11, 12, 13, 14] fun K V => ?_
  refine kas ?_
  exact kbx
 exact kaJ
theorem ND13.eqs {P Q : Prop} (g : Imp P Q := by (try simp only [go_sem, seval, hszs, hags, hmos, hsz, hag, hmo, YQ, YJ, Yp, Z7, f1, f2, f3, f4, hnth, e1, Nat.add_assoc, List.length_map, Int.toNat_natCast, Pf, Zk]); exact NW) : Imp P Q := g
open ND13 NY in
theorem c_holds_ts (fs : List Fml) (x : CelE) (s t : List UInt8) (m : Nat) : Un fs x (.nd wTs [] s t m) := fun H n => by
 have hR : ((CR.nd wTs [] s t m).tst fs).holds x = byS s (cmpI x.ts m) := by
   show byS s (cmpI x.ts (((m : Int).toNat : Nat) : Int)) = _
   rw [Int.toNat_natCast]
 rw [hR]
 unfold CR.av wTs
 have hszs : (Zf fs).sz = 1 := rfl
 have hags : (Zf fs).isAgg = true := rfl
 have hmos : (Zf fs).memOK = true := rfl
 have hsz : (Zk x).sz = 4 := Yn x
 have hag : (Zk x).isAgg = true := rfl
 have hmo : (Zk x).memOK = true := rfl
 have hnth := hsz
 have e1 := hsz
 have f1 : (n = n + 1) = False := osi
 have f2 : (n = n + 2) = False := osi
 have f3 : (n + 1 = n + 2) = False := osi
 have f4 : (n + 1 = n) = False := osi
 refine kaw ?_
 refine Zb fun K1 hK1 => ?_
 refine kaz ?_
 refine Za ?_ ?_ <;> intro hb
 ·exact kaJ
 refine rg zs [3, 4, 5, 12, 30] ?_
 refine Za ?_ ?_ <;> intro hb
 ·exact kaJ
 refine rg zs [3, 4, 5, 12, 48] ?_
 refine Za ?_ ?_ <;> intro hb
 ·exact kaJ
 refine rg zs [3, 4, 5, 12, 58] ?_
 refine Za ?_ ?_ <;> intro hb
 ·exact kaJ
 refine rg zs [3, 4, 5, 12, 67] ?_
 refine Za ?_ ?_ <;> intro hb
 ·exact kaJ
 refine rg zs [4, 5, 83] ?_
 refine Za ?_ ?_ <;> intro hb
 ·refine rg zs [4, 5, 9] ?_
  refine ZZ [4, 5, 9] (fun T' H' n' => T' = tl [(4, .loc (n + 1) 0 0 0 []), (5, .loc (n + 2) 0 0 0 []), (9, .int .i64 (if x.ts < (m : Int) then -1 else 0))] ∧ H' = ((H.put n (some (.arr 0 1 [Zf fs]))).put (n + 1) (some (.arr 0 5 [.agg [.str [116, 115], .sl 5 (Pi []), .str s, .str t, .int .i64 m]]))).put (n + 2) (some (.arr 0 4 [Zk x])) ∧ n' = n + 3) ?_ ?_
  ·refine rg zs [4, 5, 9, 89] ?_
   refine Za ?_ ?_ <;> intro hb
   ·refine rg1 zs [4, 5, 9] ?_
    refine ns ?_
    rw [if_pos (of_decide_eq_true hb)]
   refine ak ?_
   refine ns ?_
   rw [if_neg (of_decide_eq_false hb)]
  rintro T1 H1 n1 ⟨rfl, rfl, rfl⟩
  refine ZZ [4, 9] (fun T' H' n' => T' = tl [(4, .loc (n + 1) 0 0 0 []), (9, .int .i64 (cmpI x.ts m))] ∧ H' = ((H.put n (some (.arr 0 1 [Zf fs]))).put (n + 1) (some (.arr 0 5 [.agg [.str [116, 115], .sl 5 (Pi []), .str s, .str t, .int .i64 m]]))).put (n + 2) (some (.arr 0 4 [Zk x])) ∧ n' = n + 3) ?_ ?_
  ·refine rg zs [4, 9, 94] ?_
   refine Za ?_ ?_ <;> intro hb
   ·refine rg1 zs [4, 9] ?_
    refine ns ?_
    have h9 := of_decide_eq_true hb; rw [show cmpI x.ts m = 1 by unfold cmpI; rw [if_neg om, if_pos h9]]; done
   refine ak ?_
   refine ns ?_
   have h9 := of_decide_eq_false hb; rw [show cmpI x.ts m = if x.ts < (m : Int) then -1 else 0 by unfold cmpI; rw [if_neg h9]]; done
  rintro T1 H1 n1 ⟨rfl, rfl, rfl⟩
  refine rc zs [6] func144 ((WW s (cmpI x.ts m) _ _)) ?_
  exact kbx
 exact kaJ
theorem ND14.eqs {P Q : Prop} (g : Imp P Q := by (try simp only [go_sem, seval, hszs, hags, hmos, hsz, hag, hmo, YQ, YJ, Yp, Z7, f1, f2, f3, f4, Yd, List.drop_zero, Option.getD_some, Option.getD_none, Int.toNat_zero, Nat.add_assoc, List.length_map, Int.toNat_natCast, Pf, Zk]); exact NW) : Imp P Q := g
theorem ND14.sd {P : Prop} (g : P := by first | (intros; simp_all; done) | exact YP _ | fail) : P := g
open ND14 NZ in
theorem c_holds_value (fs : List Fml) (x : CelE) (s t : List UInt8) (m : Int) : Un fs x (.nd Yx [] s t m) := fun H n => by
 have hR : ((CR.nd Yx [] s t m).tst fs).holds x = if s = [94] then t.isPrefixOf x.value else byS s (Lib.compareBytes x.value t) := rfl
 rw [hR]
 unfold CR.av Yx
 have hszs : (Zf fs).sz = 1 := rfl
 have hags : (Zf fs).isAgg = true := rfl
 have hmos : (Zf fs).memOK = true := rfl
 have hsz : (Zk x).sz = 4 := Yn x
 have hag : (Zk x).isAgg = true := rfl
 have hmo : (Zk x).memOK = true := rfl
 have hnth := hsz
 have e1 := hsz
 have f1 : (n = n + 1) = False := osi
 have f2 : (n = n + 2) = False := osi
 have f3 : (n + 1 = n + 2) = False := osi
 have f4 : (n + 1 = n) = False := osi
 refine kaw ?_
 refine Zb fun K1 hK1 => ?_
 refine kaz ?_
 refine Za ?_ ?_ <;> intro hb
 ·exact kaJ
 refine rg zs [3, 4, 5, 12, 30] ?_
 refine Za ?_ ?_ <;> intro hb
 ·exact kaJ
 refine rg zs [3, 4, 5, 12, 48] ?_
 refine Za ?_ ?_ <;> intro hb
 ·exact kaJ
 refine rg zs [3, 4, 5, 12, 58] ?_
 refine Za ?_ ?_ <;> intro hb
 ·exact kaJ
 refine rg zs [3, 4, 5, 12, 67] ?_
 refine Za ?_ ?_ <;> intro hb
 ·exact kaJ
 refine rg zs [4, 5, 83] ?_
 refine Za ?_ ?_ <;> intro hb
 ·exact kaJ
 refine kay ?_
 refine rg zs [4, 5, 10] ?_
 refine Zb fun K2 hK2 => ?_
 refine rg zs [4, 5, 10, 104] ?_
 refine Za ?_ ?_ <;> intro hb
 ·exact kaJ
 refine kaQ ?_
 refine Zb fun K3 hK3 => ?_
 refine rg zs [4, 10, 110] ?_
 refine Za ?_ ?_ <;> intro hb
 ·have p1 : s = [94] := osb
  refine dx zs [6] [.m, .q, .q, .q, .q, .q, .m, .m, .q, .q, .q, .q, .q, .q, .q, .q, .q] [0, 1, 2, 3, 4, 5, 6, 7, 8, 9, 10, 11, 12, 13, 14, 15, 16] [0, 1, 2, 3, 4, 5, 6, 7, 8, 9, 10, 11, 12, 13, 14, 15, 16] fun K V => ?_
  refine kas ?_
  refine ar ?_
  rw [if_pos p1, XU]; refine ⟨_, rfl, fun k hk => oh, Frz.eq ?_ trivial⟩; rw [show decide ((t.length : Int) ≤ (x.value.length : Int)) = decide (t.length ≤ x.value.length) from decide_eq_decide.2 om]; cases decide (t.length ≤ x.value.length) <;> rfl
 have p1 : ¬ s = [94] := osb
 refine kba ?_
 refine dx zs [6] [.q, .q, .m, .q, .q, .c, .c, .q] [0, 1, 2, 3, 4, 5, 6, 7] [0, 1, 2, 3, 4, 5, 6, 7] fun K V => ?_
 refine cq func145 (fun _ n => (Jj x.value t _ _)) ?_
 refine cq func144 (fun _ n => (WW s (Lib.compareBytes x.value t) _ _)) ?_
 refine kas ?_
 refine ar ?_
 rw [if_neg p1]; exact ⟨_, rfl, fun k hk => oh, Frz.eq rfl trivial⟩
open ND14 NZ in
theorem c_holds_qual (fs : List Fml) (x : CelE) (s t : List UInt8) (m : Int) : Un fs x (.nd YS [] s t m) := fun H n => by
 have hR : ((CR.nd YS [] s t m).tst fs).holds x = if s = [94] then t.isPrefixOf x.qual else byS s (Lib.compareBytes x.qual t) := rfl
 rw [hR]
 unfold CR.av YS
 have hszs : (Zf fs).sz = 1 := rfl
 have hags : (Zf fs).isAgg = true := rfl
 have hmos : (Zf fs).memOK = true := rfl
 have hsz : (Zk x).sz = 4 := Yn x
 have hag : (Zk x).isAgg = true := rfl
 have hmo : (Zk x).memOK = true := rfl
 have hnth := hsz
 have e1 := hsz
 have f1 : (n = n + 1) = False := osi
 have f2 : (n = n + 2) = False := osi
 have f3 : (n + 1 = n + 2) = False := osi
 have f4 : (n + 1 = n) = False := osi
 refine kaw ?_
 refine Zb fun K1 hK1 => ?_
 refine kaz ?_
 refine Za ?_ ?_ <;> intro hb
 ·exact kaJ
 refine rg zs [3, 4, 5, 12, 30] ?_
 refine Za ?_ ?_ <;> intro hb
 ·exact kaJ
 refine rg zs [3, 4, 5, 12, 48] ?_
 refine Za ?_ ?_ <;> intro hb
 ·exact kaJ
 refine rg zs [3, 4, 5, 12, 58] ?_
 refine Za ?_ ?_ <;> intro hb
 ·exact kaJ
 refine rg zs [3, 4, 5, 12, 67] ?_
 refine Za ?_ ?_ <;> intro hb
 ·exact kaJ
 refine rg zs [4, 5, 83] ?_
 refine Za ?_ ?_ <;> intro hb
 ·exact kaJ
 refine kay ?_
 refine rg zs [4, 5, 10] ?_
 refine Zb fun K2 hK2 => ?_
 refine rg zs [4, 5, 10, 104] ?_
 refine Za ?_ ?_ <;> intro hb
 ·refine rg1 zs [4, 10] ?_
  apply hK2
  refine Zb fun K3 hK3 => ?_
  refine rg zs [4, 10, 110] ?_
  refine Za ?_ ?_ <;> intro hb
  ·have p1 : s = [94] := osb
   refine dx zs [6] [.m, .q, .q, .q, .q, .q, .m, .m, .q, .q, .q, .q, .q, .q, .q, .q, .q] [0, 1, 2, 3, 4, 5, 6, 7, 8, 9, 10, 11, 12, 13, 14, 15, 16] [0, 1, 2, 3, 4, 5, 6, 7, 8, 9, 10, 11, 12, 13, 14, 15, 16] fun K V => ?_
   refine kas ?_
   refine ar ?_
   rw [if_pos p1, XU]; refine ⟨_, rfl, fun k hk => oh, Frz.eq ?_ trivial⟩; rw [show decide ((t.length : Int) ≤ (x.qual.length : Int)) = decide (t.length ≤ x.qual.length) from decide_eq_decide.2 om]; cases decide (t.length ≤ x.qual.length) <;> rfl
  have p1 : ¬ s = [94] := osb
  refine kba ?_
  refine dx zs [6] [.q, .q, .m, .q, .q, .c, .c, .q] [0, 1, 2, 3, 4, 5, 6, 7] [0, 1, 2, 3, 4, 5, 6, 7] fun K V => ?_
  refine cq func145 (fun _ n => (Jj x.qual t _ _)) ?_
  refine cq func144 (fun _ n => (WW s (Lib.compareBytes x.qual t) _ _)) ?_
  refine kas ?_
  refine ar ?_
  rw [if_neg p1]; exact ⟨_, rfl, fun k hk => oh, Frz.eq rfl trivial⟩
 exact kaJ
mutual
theorem c_holds {fs : List Fml} (hfs : Zx fs = 0) (x : CelE) {i : Nat} (hi : i < fs.length) (hx : x.fam = (i : Int)) : ∀ c : CR, c.good fs → c.small → Un fs x c
 | .nd k l s t m, hg, hs => by
   unfold CR.good at hg
   by_cases h1 : k = wOr
   ·rw [if_pos h1] at hg; rw [h1]; exact c_holds_or fs x l hg.1 hs.1 (QE hfs x hi hx l hg.2 hs.2) s t m
   rw [if_neg h1] at hg
   by_cases h2 : k = wAnd
   ·rw [if_pos h2] at hg; rw [h2]; exact c_holds_and fs x l hg.1 hs.1 (QE hfs x hi hx l hg.2 hs.2) s t m
   rw [if_neg h2] at hg
   have one : l.length = 1 → ∃ c, l = [c] := fun h => by
     cases l with
     | nil => cases h
     | cons c l => cases l with | nil => exact ⟨c, rfl⟩ | cons _ _ => simp at h
   by_cases h3 : k = wNot
   ·rw [if_pos h3] at hg; rw [h3]
    obtain ⟨c, rfl⟩ := one hg.1
    exact c_holds_not fs x c (QE hfs x hi hx [c] hg.2 hs.2 c osi) s t m
   rw [if_neg h3] at hg
   by_cases h4 : k = wIn
   ·rw [if_pos h4] at hg; rw [h4]
    obtain ⟨c, rfl⟩ := one hg.1
    exact c_holds_in fs x c (QE hfs x hi hx [c] hg.2 hs.2 c osi) s t m
   rw [if_neg h4] at hg
   obtain ⟨rfl, hg⟩ := hg
   rcases hg with ⟨rfl, hg⟩ | ⟨rfl, hg⟩ | rfl | rfl
   ·exact c_holds_fam fs hfs x hi hx s t hg m
   ·obtain ⟨m', rfl⟩ : ∃ m' : Nat, m = m' := ⟨m.toNat, om⟩
    exact c_holds_ts fs x s t m'
   ·exact c_holds_qual fs x s t m
   ·exact c_holds_value fs x s t m
theorem QE {fs : List Fml} (hfs : Zx fs = 0) (x : CelE) {i : Nat} (hi : i < fs.length) (hx : x.fam = (i : Int)) : ∀ l : List CR, Pb fs l → CR.smalls l → ∀ c ∈ l, Un fs x c
 | [], _, _, c, hc => by cases hc
 | a :: l, hg, hs, c, hc => by
   rcases List.mem_cons.1 hc with h | h
   ·rw [h]; exact c_holds hfs x hi hx a hg.1 hs.1
   ·exact QE hfs x hi hx l hg.2 hs.2 c h
end
theorem readR_good {fs : List Fml} {t : List UInt8} {x : Tst × List UInt8} (h : Wp fs t = .ok x) : (WF fs t).1.good fs ∧ (WF fs t).1.small ∧ (WF fs t).1.tst fs = x.1 := by
 have hr := readR_rel fs t
 rw [h] at hr
 unfold WF at hr ⊢
 by_cases h1 : 512 < t.length
 ·rw [if_pos h1] at hr; simp at hr
 rw [if_neg h1] at hr ⊢
 by_cases h2 : 0 ≤ (Zi t s0R).bad
 ·rw [if_pos h2] at hr; simp only at hr; omega
 rw [if_neg h2] at hr ⊢
 simp only at hr ⊢
 have h3 : (Z8 fs t (8 * t.length + 16) (Zi t s0R)).2.bad < 0 := by
   rcases Int.lt_or_le (Z8 fs t (8 * t.length + 16) (Zi t s0R)).2.bad 0 with h4 | h4
   ·exact h4
   ·have := hr.1
    rw [if_neg (fun e => by have := e.1; omega)] at this
    omega
 exact ⟨(cr_good _).2.2.2.2 _ om h3, (cr_small _ om).2.2.2.2 _, hr.2⟩
theorem famsOut_no {nf : Nat} {l : List CelE} (h : Xe nf l = false) {i : Nat} (hi : i < l.length) : ∃ m : Nat, m < nf ∧ (l.getD i default).fam = (m : Int) := by
 unfold Xe at h
 rw [List.any_eq_false] at h
 have h9 : bout (l.getD i default).fam 0 ((nf : Int) - 1) = false := by
   cases hb : bout (l.getD i default).fam 0 ((nf : Int) - 1) with
   | false => rfl
   | true => exact absurd hb (h _ (Yo l hi))
 have := V6 h9
 exact ⟨(l.getD i default).fam.toNat, om, om⟩
theorem U2 (b : List UInt8) (hb : b.length ≤ 1099511627776) (H : Heap) (n : Nat) : Ret prog 58 [bys b, .int .i64 0, .int .i64 b.length] H n (bys b) H n := by
 have := Uk b hb 0 b.length (Nat.zero_le _) (Nat.le_refl _) H n
 rwa [List.take_length, List.drop_zero] at this
structure WantOK (fs : List Fml) (q : QryE) : Prop where
 sch : Zx fs = 0
 ok : 0 < q.whr.length → ∃ x, Wp fs q.whr = .ok x
theorem want_hold {fs : List Fml} {q : QryE} (h : WantOK fs q) (h0 : 0 < q.whr.length) (x : CelE) {i : Nat} (hi : i < fs.length) (hx : x.fam = (i : Int)) (H : Heap) (n : Nat) : Ret prog 124 [Zf fs, (WF fs q.whr).1.av, Zk x] H n (.bool (Ur (Yi fs q) x)) H n := by
 obtain ⟨y, hy⟩ := h.ok h0
 obtain ⟨g1, g2, g3⟩ := readR_good hy
 have := c_holds h.sch x hi hx _ g1 g2 H n
 rw [g3] at this
 rw [Mo h0 hy]; exact this
theorem inF_step (l : List Int) (f : Int) {j : Nat} (hj : j < l.length) : (l.isEmpty || (l.take (j + 1)).contains f) = ((l.isEmpty || (l.take j).contains f) || (l.getD j default == f)) := by
 rw [VA l hj, List.contains_append, Bool.or_assoc]
 congr 1
 congr 1
 rw [Bool.eq_iff_iff]; simp; exact eq_comm
theorem ND20.eqs {P Q : Prop} (g : Imp P Q := by (try simp only [go_sem, seval, hszs, hags, hmos, hszq, hagq, hmoq, hszr, hagr, hmor, hcs, hca, hcm, f1, f2, f3, f4, b1, b2, b3, b4, b5, hnth, hnf, e1, e2, g1, g2, g3, g4, g5, YQ, YJ, Yp, Z7, Nat.add_assoc, List.length_map, Int.toNat_natCast, Yd, List.drop_zero, Option.getD_some, Option.getD_none, Int.toNat_zero, Zm, Zk, Ze, Zt, bys]); exact NW) : Imp P Q := g
theorem ND20.sd {P : Prop} (g : P := by first | exact fun _ => ⟨om, om⟩ | exact ⟨om, om⟩ | (intro _ h9; rw [h9]; rfl) | exact ⟨rfl, by (simp [AV.sz, AV.szs, AV.memOK]; first | done | fail)⟩ | exact ⟨Nat.le_refl _, .inr trivial, om, om⟩ | fail) : P := g
set_option maxHeartbeats 6400000 in
open ND20 NZ in
theorem NB (fs : List Fml) (hfs : fs.length ≤ 1048576) (q : QryE) (hqf : q.fams.length ≤ 1048576) (r : RowE) (hcl : r.cells.length ≤ 1048576) (hcb : ∀ c ∈ r.cells, c.qual.length ≤ 1099511627776 ∧ c.value.length ≤ 1099511627776) (hfam : Xe fs.length r.cells = false) (hw : WantOK fs q) (H : Heap) (n : Nat) :
   Ret prog 90 [Zf fs, Ze q, Zm r] H n (.sl 4 ((ZC q (Yi fs q) r.cells).map Zk)) H n := by
 have hszs : (Zf fs).sz = 1 := rfl
 have hags : (Zf fs).isAgg = true := rfl
 have hmos : (Zf fs).memOK = true := rfl
 have hszq : (Ze q).sz = 10 := ZH q
 have hagq : (Ze q).isAgg = true := rfl
 have hmoq : (Ze q).memOK = true := rfl
 have hszr : (Zm r).sz = 2 := Vf r
 have hagr : (Zm r).isAgg = true := rfl
 have hmor : (Zm r).memOK = true := rfl
 have hcs : ∀ c, (Zk c).sz = 4 := Yn
 have hca : ∀ c, (Zk c).isAgg = true := fun _ => rfl
 have hcm : ∀ c, (Zk c).memOK = true := fun _ => rfl
 have f1 : (n = n + 1) = False := osi
 have f2 : (n = n + 2) = False := osi
 have f3 : (n + 1 = n + 2) = False := osi
 have f4 : (n + 1 = n) = False := osi
 have b1 := hszs
 have b2 := hszs
 have b3 := hszs
 have b4 := hszs
 have b5 := hszs
 have hnth := hszs
 have hnf := hszs
 have e1 := hszs
 have e2 := hszs
 have g1 := hszs
 have g2 := hszs
 have g3 := hszs
 have g4 := hszs
 have g5 := hszs
 refine Ret.fin ?_
 refine fw func90 ntmps90 results90 ?_
 refine rg zs [3, 4, 5] ?_
 refine rg zs [3, 4, 5, 7] ?_
 refine rc zs [3, 4, 5, 7, 8] func71 ((Kl fs hfs q.whr _ _)) ?_
 refine Zb fun K1 hK1 => ?_
 refine rg zs [3, 4, 5, 7, 8, 10] ?_
 refine Zv ?_
 refine Yw 7 4 rfl ?_
 refine YR [3, 4, 5, 7, 8, 10] ?_
 simp only [go_sem, seval]
 refine Zp (fun T' H' n' => ∃ (i ver : Nat), i ≤ r.cells.length ∧ T' = tl [(3, .loc n 0 0 0 []), (4, .loc (n + 1) 0 0 0 []), (5, .loc (n + 2) 0 0 0 []), (7, .osl (n + 4) ver 0 (ZC q (Yi fs q) (r.cells.take i)).length), (8, .loc (n + 3) 0 0 0 []), (10, .int .i64 i)] ∧ H' n = some (.arr 0 1 [Zf fs]) ∧ H' (n + 1) = some (.arr 0 10 [Ze q]) ∧ H' (n + 2) = some (.arr 0 2 [Zm r]) ∧ H' (n + 3) = some (.arr 0 5 [(WF fs q.whr).1.av]) ∧ H' (n + 4) = some (.arr ver 4 ((ZC q (Yi fs q) (r.cells.take i)).map Zk)) ∧ (∀ k, k < n → H' k = H k) ∧ n + 5 ≤ n') (fun T' _ _ => r.cells.length - iv (T' 10)) ?_ ?_
 ·exact ⟨0, 0, Nat.zero_le _, rfl, ohr, ohr, ohr, oh, ohr, fun k hk => oh, om⟩
 rintro T1 H1 n1 ⟨i, ver, hi, rfl, b1, b2, b3, b4, b5, hlow, hn1⟩
 refine Zb fun K2 hK2 => ?_
 refine rg zs [3, 4, 5, 7, 8, 10, 26] ?_
 refine Za ?_ ?_ <;> intro hb
 ·have hci : i < r.cells.length := ott
  have hnth : nth (r.cells.map Zk) i = Zk (r.cells.getD i default) := Zr Zk r.cells i hci
  have hsn := LD q (Yi fs q) r.cells hci
  have hcb1 := hcb _ (Yo r.cells hci)
  have hfa := famsOut_no hfam hci
  have e1 : IntKind.i64.wrap ((i : Int) + 1) = ((i + 1 : Nat) : Int) := w1 om
  have hchl : (ZC q (Yi fs q) (r.cells.take i)).length ≤ 1048576 := by have := List.length_filter_le (YY q (Yi fs q)) (r.cells.take i); unfold ZC; rw [List.length_take] at this; omega
  generalize r.cells.getD i default = x at *
  obtain ⟨fm, hfa1, hfa2⟩ := hfa
  have g1 : (n + 1 = n1) = False := oz
  have g2 : (n = n1) = False := oz
  have g3 : (n + 3 = n1) = False := oz
  have g4 : (n + 4 = n1) = False := oz
  refine ak ?_
  apply hK2
  refine ZZ [3, 4, 5, 7, 8, 10] (fun T' H' n' => ∃ ver, T' = tl [(3, .loc n 0 0 0 []), (4, .loc (n + 1) 0 0 0 []), (5, .loc (n + 2) 0 0 0 []), (7, .osl (n + 4) ver 0 (ZC q (Yi fs q) (r.cells.take (i + 1))).length), (8, .loc (n + 3) 0 0 0 []), (10, .int .i64 i)] ∧ H' n = some (.arr 0 1 [Zf fs]) ∧ H' (n + 1) = some (.arr 0 10 [Ze q]) ∧ H' (n + 2) = some (.arr 0 2 [Zm r]) ∧ H' (n + 3) = some (.arr 0 5 [(WF fs q.whr).1.av]) ∧ H' (n + 4) = some (.arr ver 4 ((ZC q (Yi fs q) (r.cells.take (i + 1))).map Zk)) ∧ (∀ k, k < n → H' k = H k) ∧ n + 5 ≤ n') ?_ ?_
  ·refine Zv ?_
   refine rg zs [3, 4, 5, 7, 8, 10, 11] ?_
   refine rg zs [3, 4, 5, 7, 8, 10, 11, 12] ?_
   refine Zb fun K3 hK3 => ?_
   refine rg zs [3, 4, 5, 7, 8, 10, 11, 12, 13] ?_
   refine Zv ?_
   refine Zp (fun T' H' n' => ∃ j : Nat, j ≤ q.fams.length ∧ T' = tl [(3, .loc n 0 0 0 []), (4, .loc (n + 1) 0 0 0 []), (5, .loc (n + 2) 0 0 0 []), (7, .osl (n + 4) ver 0 (ZC q (Yi fs q) (r.cells.take i)).length), (8, .loc (n + 3) 0 0 0 []), (10, .int .i64 i), (11, .loc n1 0 0 0 []), (12, .bool (q.fams.isEmpty || (q.fams.take j).contains x.fam)), (13, .int .i64 j)] ∧ H' = H1.put n1 (some (.arr 0 4 [Zk x])) ∧ n' = n1 + 1) (fun T' _ _ => q.fams.length - iv (T' 13)) ?_ ?_
   ·exact ⟨0, Nat.zero_le _, by rw [show (q.fams.isEmpty || (q.fams.take 0).contains x.fam) = ((q.fams.length : Int) == 0) by cases q.fams <;> simp <;> omega]; rfl, rfl, rfl⟩
   rintro T1 H1 n1 ⟨j, hj, rfl, rfl, rfl⟩
   refine Zb fun K4 hK4 => ?_
   refine rg zs [3, 4, 5, 7, 8, 10, 11, 12, 13, 42] ?_
   refine Za ?_ ?_ <;> intro hb
   ·have hjl : j < q.fams.length := ott
    have hnf : nth (q.fams.map fun x : Int => (.int .i64 x : AV)) j = .int .i64 (q.fams.getD j default) := Zr (fun x : Int => (.int .i64 x : AV)) q.fams j hjl
    have e2 : IntKind.i64.wrap ((j : Int) + 1) = ((j + 1 : Nat) : Int) := w1 om
    refine ak ?_
    apply hK4
    refine bk fun K5 hK5 => ?_
    refine dx1 zs [3, 4, 5, 7, 8, 10, 11, 12, 13] [.m, .m, .q, .q, .m, .q, .q, .q, .q, .q, .q, .q] [0, 1, 2, 3, 4, 5, 6, 7, 8, 9, 10, 11] [0, 1, 2, 3, 4, 5, 6, 7, 8, 9, 10, 11] fun K V => ?_
    apply V; clear V K
    refine ns ?_
    apply hK5
    refine rg1 zs [3, 4, 5, 7, 8, 10, 11, 12, 13] ?_
    exact ⟨⟨j + 1, om, by rw [inF_step _ _ hjl]; cases (q.fams.isEmpty || (q.fams.take j).contains x.fam) <;> rfl⟩, om⟩
   have hjl : j = q.fams.length := otf
   subst hjl
   have hin : (q.fams.isEmpty || (q.fams.take q.fams.length).contains x.fam) = Vo q.fams x.fam := by rw [List.take_length]; rfl
   rw [hin]
   have hwn : q.whr = [] → Ur (Yi fs q) x = true := fun e => by rw [Mq (by simp [e])]; rfl
   refine ax ?_
   apply hK3
   refine rg zs [3, 4, 5, 7, 8, 10, 11, 12, 14] ?_
   refine X3 rfl zs [3, 4, 5, 7, 8, 10, 11, 12] [.m, .m, .q, .q, .q, .m, .q, .q, .m, .q, .q, .m, .q, .q, .q, .q, .q, .q, .q, .q] [0, 1, 2, 3, 4, 5, 6, 7, 8, 9, 10, 11, 12, 13, 14, 15, 16, 17, 18, 19] [0, 1, 2, 3, 4, 5, 6, 7, 8, 9, 10, 11, 12, 13, 14, 15, 16, 17, 18, 19] (by kernel_rfl) (fun _ _ _ _ _ h => h) fun K V => ?_
   try simp only [go_sem, seval, hszs, hags, hmos, hszq, hagq, hmoq, hszr, hagr, hmor, hcs, hca, hcm, f1, f2, f3, f4, b1, b2, b3, b4, b5, hnth, hnf, e1, e2, g1, g2, g3, g4, g5, YQ, YJ, Yp, Z7, Nat.add_assoc, List.length_map, Int.toNat_natCast, Yd, List.drop_zero, Option.getD_some, Option.getD_none, Int.toNat_zero, Zm, Zk, Ze, Zt, bys, hszs, hags, hmos, hszq, hagq, hmoq, g1, g2, b2, hcs, hca, hcm, ← List.map_take, Yd, List.length_map, List.drop_zero, Option.getD_some, Option.getD_none, Int.toNat_natCast, Int.toNat_zero, Zk, Ze, Zt, bys]
   repeat (first | (refine And.intro ?_ ?_; · first | (intro _; exact YP _) | (intro _ h9; rw [h9]; rfl)) | refine peel ?_)
   apply V; clear V K
   refine rk zs [3, 4, 5, 7, 8, 10, 11, 89] fun K V => ?_
   refine YE func124 rfl rfl rfl (fun hg => want_hold hw ?_ x hfa1 hfa2 _ _) ?_
   ·simp at hg; exact List.length_pos_iff.2 hg.2
   refine nz ?_
   apply V; clear V K
   refine Za ?_ ?_ <;> intro hb
   ·have hyes : YY q (Yi fs q) x = true := by unfold YY; rw [XU]; have h9 := hb; clear hb; cases h1 : Vo q.fams x.fam <;> cases h2 : Ur (Yi fs q) x <;> by_cases h3 : q.whr = [] <;> simp_all
    refine dx1 zs [3, 4, 5, 7, 8, 10] [.m, .q, .q, .q, .q, .q, .q, .q, .c, .q, .q, .q, .q, .q, .q, .q, .c, .q, .q, .w [], .q] [0, 1, 2, 3, 4, 5, 6, 7, 8, 9, 10, 11, 12, 13, 14, 15, 16, 17, 18, 19, 20] [0, 1, 2, 3, 4, 5, 6, 7, 8, 9, 10, 11, 12, 13, 14, 15, 16, 17, 18, 19, 20] fun K V => ?_
    refine cq func58 (fun _ n => (U2 x.qual hcb1.1 _ _)) ?_
    refine cq func58 (fun _ n => (U2 x.value hcb1.2 _ _)) ?_
    apply V; clear V K
    refine ns ?_
    refine ns ?_
    first
    | (rw [hsn, hyes, if_pos rfl]
       rw [List.take_of_length_le (show ((ZC q (Yi fs q) (r.cells.take i)).map Zk).length ≤ (ZC q (Yi fs q) (r.cells.take i)).length by simp)]
       refine ⟨ver + 1, ?_⟩; (repeat' apply And.intro) <;> first | rfl | (rw [List.length_append]; rfl) | ((try simp only [NV]); (repeat first | rw [if_pos rfl] | rw [if_pos trivial] | rw [if_neg om]); first | done | exact b1 | exact b2 | exact b3 | exact b4 | exact b5 | (rw [List.map_append]; rfl)) | (intro k hk; refine ohx ?_; exact hlow k hk) | omega)
   have hnot : YY q (Yi fs q) x = false := by unfold YY; rw [XU]; have h9 := hb; clear hb; cases h1 : Vo q.fams x.fam <;> cases h2 : Ur (Yi fs q) x <;> by_cases h3 : q.whr = [] <;> simp_all
   refine ak ?_
   refine ns ?_
   first
   | (rw [hsn, hnot, if_neg osi, List.append_nil]
      refine ⟨ver, ?_⟩; (repeat' apply And.intro) <;> first | rfl | (rw [List.length_append]; rfl) | ((try simp only [NV]); (repeat first | rw [if_pos rfl] | rw [if_pos trivial] | rw [if_neg om]); first | done | exact b1 | exact b2 | exact b3 | exact b4 | exact b5 | (rw [List.map_append]; rfl)) | (intro k hk; refine ohx ?_; exact hlow k hk) | omega)
  rintro T3 H3 n3 ⟨ver3, rfl, b1, b2, b3, b4, b5, hlow, hn3⟩
  refine rg1 zs [3, 4, 5, 7, 8, 10] ?_
  exact ⟨⟨i + 1, ver3, om, rfl, rfl, hlow, hn3⟩, om⟩
 have hci : i = r.cells.length := otf
 refine ax ?_
 apply hK1
 refine rg zs [6] ?_
 refine ar ?_
 subst hci
 rw [List.take_length] at b5 ⊢
 exact ⟨_, rfl, hlow, .osl b5 om osi (by rw [List.drop_zero, List.take_of_length_le osi]; exact XH _ (XF Zk (fun c => ⟨trivial, Xd _ _, trivial, Xd _ _, trivial⟩) _))⟩
def Q5 (rev : Bool) (row l : List UInt8) : Bool := if rev then decide (0 ≤ Lib.compareBytes row l) else decide (Lib.compareBytes row l ≤ 0)
def Q6 (rev : Bool) (row l : List UInt8) : Bool := if rev then decide (0 ≤ Lib.compareBytes row l) else decide (Lib.compareBytes row l < 0)
def Nt (nf : Nat) (q : QryE) (x : RowE) (last : List UInt8) (any : Bool) (start : List UInt8) (has : Bool) : Bool :=
 !(decide (x.row.length = 0 ∨ 256 < x.row.length)) && !(any && Q5 q.rev x.row last) && !(has && Q6 q.rev x.row start) && !Xe nf x.cells
theorem comesX_eq (nf : Nat) (q : QryE) (x : RowE) (last : Option (List UInt8)) (start : List UInt8) (has : Bool) : Nt nf q x (last.getD []) last.isSome start has = Wu nf q x last start has := by
 have e1 : ∀ a : Int, (!decide (0 ≤ a)) = decide (a < 0) := fun a => by rw [Bool.eq_iff_iff]; simp
 have e2 : ∀ a : Int, (!decide (a ≤ 0)) = decide (0 < a) := fun a => by rw [Bool.eq_iff_iff]; simp
 have e3 : ∀ a : Int, (!decide (a < 0)) = decide (0 ≤ a) := fun a => by rw [Bool.eq_iff_iff]; simp
 unfold Nt Wu Q5 Q6
 congr 1
 congr 1
 ·congr 1
  cases last with
  | none => rfl
  | some l => cases q.rev <;> simp only [Option.isSome_some, Option.getD_some, Bool.true_and, if_true, Bool.false_eq_true, if_false, e1, e2]
 ·cases has <;> cases q.rev <;> simp only [Bool.true_and, Bool.false_and, Bool.not_false, Bool.not_true, Bool.true_or, Bool.false_or, if_true, Bool.false_eq_true, if_false, e1, e3]
theorem ND30.eqs {P Q : Prop} (g : Imp P Q := by (try simp only [go_sem, seval, hszs, hags, hmos, hszq, hagq, hmoq, hszr, hagr, hmor, f1, f2, f3, hnth, e1, b1, b3, he, hle, hge, Nat.add_assoc, List.length_map, Int.toNat_natCast, Yd, Zm, Zk, Ze, Zt, bys, Zf]); exact NW) : Imp P Q := g
theorem ND30.sd {P : Prop} (g : P := by first | exact YP _ | (intro _; exact YP _) | (intro _ h8 h9; rw [h8, h9]; rfl) | (intro _ h8; rw [h8]; rfl) | (intros; simp_all; done) | fail) : P := g
set_option maxHeartbeats 6400000 in
open ND30 NZ in
theorem Jk (fs : List Fml) (hfs : fs.length ≤ 1048576) (q : QryE) (r : RowE) (hcl : r.cells.length ≤ 1048576) (last : List UInt8) (any : Bool) (start : List UInt8) (has : Bool) (H : Heap) (n : Nat) :
   Ret prog 88 [Zf fs, Ze q, Zm r, bys last, .bool any, bys start, .bool has] H n (.bool (Nt fs.length q r last any start has)) H n := by
 have hszs : (Zf fs).sz = 1 := rfl
 have hags : (Zf fs).isAgg = true := rfl
 have hmos : (Zf fs).memOK = true := rfl
 have hszq : (Ze q).sz = 10 := ZH q
 have hagq : (Ze q).isAgg = true := rfl
 have hmoq : (Ze q).memOK = true := rfl
 have hszr : (Zm r).sz = 2 := Vf r
 have hagr : (Zm r).isAgg = true := rfl
 have hmor : (Zm r).memOK = true := rfl
 have f1 : (n = n + 1) = False := osi
 have f2 : (n = n + 2) = False := osi
 have f3 : (n + 1 = n + 2) = False := osi
 have hnth := hszs
 have e1 := hszs
 have b1 := hszs
 have b3 := hszs
 have he : IntKind.i64.wrap ((fs.length : Int) - 1) = (fs.length : Int) - 1 := w64 om om
 have hle : ∀ a b : List UInt8, (Op.bytesLess a b || a == b) = decide (Lib.compareBytes a b ≤ 0) := fun a b => by
   obtain ⟨c1, c2⟩ := Wh a b
   rw [c2, Bool.eq_iff_iff, Bool.or_eq_true, decide_eq_true_eq, beq_iff_eq, decide_eq_true_eq, ← c1]; omega
 have hge : ∀ a b : List UInt8, (!Op.bytesLess a b) = decide (0 ≤ Lib.compareBytes a b) := fun a b => by
   rw [(Wh a b).2, Bool.eq_iff_iff]; simp
 have hlt : ∀ a b : List UInt8, Op.bytesLess a b = decide (Lib.compareBytes a b < 0) := fun a b => (Wh a b).2
 obtain ⟨z, hz⟩ : ∃ z, z = Nt fs.length q r last any start has := ⟨_, rfl⟩
 rw [← hz]
 unfold Nt at hz
 refine Ret.fin ?_
 refine fw func88 ntmps88 results88 ?_
 refine rg zs [3, 4, 5, 6, 7, 8, 9] ?_
 refine Zb fun K1 hK1 => ?_
 refine rg zs [3, 4, 5, 6, 7, 8, 9, 26] ?_
 refine Za ?_ ?_ <;> intro hb
 ·have h1 : r.row.length = 0 ∨ 256 < r.row.length := by simp at hb; grind
  have hzz : z = false := by rw [hz, decide_eq_true h1]; rfl
  refine rg zs [14] ?_
  refine ar ?_
  refine ⟨_, rfl, fun k hk => by first | exact hlow k hk | (try simp only [NV]); (repeat first | rw [if_pos rfl] | rw [if_pos trivial] | rw [if_neg om]), Frz.eq (by rw [hzz]) trivial⟩
 have h1 : ¬ (r.row.length = 0 ∨ 256 < r.row.length) := by simp at hb; grind
 refine ak ?_
 apply hK1
 refine rg zs [3, 4, 5, 6, 7, 8, 9, 15] ?_
 refine Zb fun K2 hK2 => ?_
 refine rg zs [5, 6, 7, 8, 9, 15, 51] ?_
 refine Za ?_ ?_ <;> intro hb
 ·have h2 : (any && Q5 q.rev r.row last) = true := by unfold Q5; have h9 := hb; clear hb hle hge hlt hz; revert h9; cases any <;> cases q.rev <;> intro h9 <;> first | rfl | exact h9 | (simp at h9 ⊢; omega) | (simp at h9; done)
  have hzz : z = false := by rw [hz, h2]; simp
  refine rg zs [14] ?_
  refine ar ?_
  refine ⟨_, rfl, fun k hk => by first | exact hlow k hk | (try simp only [NV]); (repeat first | rw [if_pos rfl] | rw [if_pos trivial] | rw [if_neg om]), Frz.eq (by rw [hzz]) trivial⟩
 have h2 : (any && Q5 q.rev r.row last) = false := by unfold Q5; have h9 := hb; clear hb hle hge hlt hz; revert h9; cases any <;> cases q.rev <;> intro h9 <;> first | rfl | exact h9 | (simp at h9 ⊢; omega) | (simp at h9; done)
 refine ak ?_
 apply hK2
 refine Zb fun K3 hK3 => ?_
 refine rg zs [7, 9, 73] ?_
 refine Za ?_ ?_ <;> intro hb
 ·have h3 : (has && Q6 q.rev r.row start) = true := by unfold Q6; have h9 := hb; rw [hlt] at h9; clear hb hle hge hlt hz; revert h9; cases has <;> cases q.rev <;> intro h9 <;> first | rfl | exact h9 | (simp at h9 ⊢; omega) | (simp at h9; done)
  have hzz : z = false := by rw [hz, h3]; simp
  refine rg zs [14] ?_
  refine ar ?_
  refine ⟨_, rfl, fun k hk => by first | exact hlow k hk | (try simp only [NV]); (repeat first | rw [if_pos rfl] | rw [if_pos trivial] | rw [if_neg om]), Frz.eq (by rw [hzz]) trivial⟩
 have h3 : (has && Q6 q.rev r.row start) = false := by unfold Q6; have h9 := hb; rw [hlt] at h9; clear hb hle hge hlt hz; revert h9; cases has <;> cases q.rev <;> intro h9 <;> first | rfl | exact h9 | (simp at h9 ⊢; omega) | (simp at h9; done)
 rw [decide_eq_false h1, h2, h3] at hz
 refine ak ?_
 apply hK3
 refine Zb fun K4 hK4 => ?_
 refine rg zs [7, 9, 16] ?_
 refine Zv ?_
 refine Zp (fun T' H' n' => ∃ i : Nat, i ≤ r.cells.length ∧ (∀ j, j < i → bout (r.cells.getD j default).fam 0 ((fs.length : Int) - 1) = false) ∧ T' = tl [(7, .loc n 0 0 0 []), (9, .loc (n + 2) 0 0 0 []), (16, .int .i64 i)] ∧ H' n = some (.arr 0 1 [Zf fs]) ∧ H' (n + 2) = some (.arr 0 2 [Zm r]) ∧ (∀ k, k < n → H' k = H k)) (fun T' _ _ => r.cells.length - iv (T' 16)) ?_ ?_
 ·exact ⟨0, Nat.zero_le _, fun j hj => om, rfl, ohr, ohr, fun k hk => oh⟩
 rintro T1 H1 n1 ⟨i, hi, hfa, rfl, b1, b3, hlow⟩
 refine Zb fun K5 hK5 => ?_
 refine rg zs [7, 9, 16, 78] ?_
 refine Za ?_ ?_ <;> intro hb
 ·have hci : i < r.cells.length := ott
  have hnth : nth (r.cells.map Zk) i = Zk (r.cells.getD i default) := Zr Zk r.cells i hci
  have e1 : IntKind.i64.wrap ((i : Int) + 1) = ((i + 1 : Nat) : Int) := w1 om
  refine ak ?_
  apply hK5
  refine bk fun K6 hK6 => ?_
  refine dx zs [7, 9, 16, 91] [.q, .q, .m, .q, .q, .q, .q, .q, .q, .q, .c] [0, 1, 2, 3, 4, 5, 6, 7, 8, 9, 10] [0, 1, 2, 3, 4, 5, 6, 7, 8, 9, 10] fun K V => ?_
  refine cq func68 (fun _ n => (Vj (r.cells.getD i default).fam 0 ((fs.length : Int) - 1) _ _)) ?_
  apply V; clear V K
  refine Za ?_ ?_ <;> intro hb
  ·have hzz : z = false := by rw [hz, Ni hci hb]; rfl
   refine rg zs [14] ?_
   refine ar ?_
   refine ⟨_, rfl, fun k hk => by first | exact hlow k hk | (try simp only [NV]); (repeat first | rw [if_pos rfl] | rw [if_pos trivial] | rw [if_neg om]), Frz.eq (by rw [hzz]) trivial⟩
  have hno : bout (r.cells.getD i default).fam 0 ((fs.length : Int) - 1) = false := hb
  refine ak ?_
  apply hK6
  refine rg1 zs [7, 9, 16] ?_
  exact ⟨⟨i + 1, om, fun j hj => (by rcases Nat.lt_or_ge j i with h9 | h9; exact hfa j h9; rw [show j = i by omega]; exact hno), rfl, hlow⟩, by omega⟩
 have hci : i = r.cells.length := otf
 have hzz : z = true := by subst hci; rw [hz, J8 hfa]; rfl
 refine ax ?_
 apply hK4
 refine rg zs [14] ?_
 refine ar ?_
 refine ⟨_, rfl, fun k hk => by first | exact hlow k hk | (try simp only [NV]); (repeat first | rw [if_pos rfl] | rw [if_pos trivial] | rw [if_neg om]), Frz.eq (by rw [hzz]) trivial⟩
theorem mark_has {q : QryE} (h : (ZW q).2.2 = 0) : decide (q.token.length ≠ 0 ∧ (ZW q).2.2 = 0) = decide (0 < (ZW q).1) := by
 refine decide_eq_decide.2 ⟨fun hc => ?_, fun hp => ⟨fun e => ?_, h⟩⟩
 ·have h2 := h
  unfold ZW at h2 ⊢
  rw [if_neg hc.1] at h2 ⊢
  split at h2
  ·exact absurd h2 odc
  rename_i a1
  rw [if_neg a1]
  split at h2
  ·exact absurd h2 odc
  rename_i a2
  rw [if_neg a2]
  split at h2
  ·exact absurd h2 odc
  rename_i a3
  rw [if_neg a3]
  simp only; omega
 ·unfold ZW at hp; rw [if_pos e] at hp; simp at hp
theorem oo_ref1_Part (b : List UInt8) (hb : b.length ≤ 1099511627776) (H : Heap) (n : Nat) : Zl prog 58 [bys b, .int .i64 0, .int .i64 b.length] H n (OAns H n (bys b)) := by
 have h9 := Vg b hb 0 b.length (Nat.zero_le _) (Nat.le_refl _) H n
 rw [List.take_length, List.drop_zero] at h9
 refine h9.mono fun res H1 n1 ⟨hr, hH, hn⟩ => ?_
 subst hr; subst hH; subst hn
 exact OAns.one (.osl (NU _ _ _) osi (by rw [List.take_of_length_le osi]; exact Pp _ (WP _))) om (fun k hk => NT _ _ om) om
theorem l_ref1_Part {js : List Nat} {H : Heap} {a : AV} {b : List UInt8} (ha : LSl js H a 1 (b.map Zd)) (hb : b.length ≤ 1099511627776) (n : Nat) : Ret prog 58 [a, .int .i64 0, .int .i64 b.length] H n (bys b) H n :=
 OAns.fin (OAns.lend (Jn.none H) (.cons ha.l.frz (.cons (.kl trivial) (.cons (.kl trivial) .nil))) (oo_ref1_Part b hb _ _))
theorem ND40.eqs {P Q : Prop} (g : Imp P Q := by (try simp only [go_sem, seval, hsz, hag, hmo, f1, KU, Ze, Zt, bys, List.length_map]); exact NW) : Imp P Q := g
open ND40 NY in
theorem c_ref13_At (q : QryE) (hq : q.fine) (ht : -9223372036854775808 ≤ q.time ∧ q.time < 9223372036854775808) (clock : Int) (H : Heap) (n : Nat) : Ret prog 37 [Ze q, .int .i64 clock] H n (.tup [.int .i64 (atE q clock).1, .int .i64 (atE q clock).2]) H n := by
 have hsz : (Ze q).sz = 10 := ZH q
 have hag : (Ze q).isAgg = true := rfl
 have hmo : (Ze q).memOK = true := rfl
 obtain ⟨z, hz⟩ : ∃ z, z = atE q clock := ⟨_, rfl⟩
 rw [← hz]
 unfold atE at hz
 have f1 : (n = n + 1) = False := osi
 refine Ret.fin ?_
 refine fw func37 ntmps37 results37 ?_
 refine rg zs [1, 2] ?_
 refine Zb fun K1 hK1 => ?_
 refine rc zs [1, 2, 9] func68 ((Vj clock 1 1099511627776 _ _)) ?_
 refine Za ?_ ?_ <;> intro hb
 ·rw [if_pos (by unfold bout at hb; simp at hb; omega)] at hz
  exact kah
 rw [if_neg (by unfold bout at hb; simp at hb; omega)] at hz
 refine kay ?_
 refine rc zs [1, 2, 6, 7] func60 ((Wx q hq ht _ _)) ?_
 refine Zb fun K2 hK2 => ?_
 refine rg zs [1, 2, 6, 7, 16] ?_
 refine Za ?_ ?_ <;> intro hb
 ·rw [if_pos osb] at hz
  exact kah
 have h0 : (ZW q).2.2 = 0 := osb
 rw [if_neg (by simp [h0])] at hz
 have hmh := mark_has h0
 refine kaQ ?_
 refine Zb fun K3 hK3 => ?_
 refine rg zs [1, 2, 6, 19] ?_
 refine Za ?_ ?_ <;> intro hb
 ·rw [if_pos (by rw [hmh] at hb; exact of_decide_eq_true hb)] at hz
  exact kah
 rw [if_neg (by rw [hmh] at hb; exact of_decide_eq_false hb)] at hz
 refine kba ?_
 refine Zb fun K4 hK4 => ?_
 refine rg zs [1, 2, 24] ?_
 refine Za ?_ ?_ <;> intro hb
 ·rw [if_pos osb] at hz
  exact kah
 rw [if_neg osb] at hz
 refine kb3 ?_
 exact kah
theorem ND41.eqs {P Q : Prop} (g : Imp P Q := by (try simp only [go_sem, seval, hsz, hag, hmo, f1, hst, hql, KU, Ze, Zt, bys, List.length_map, Yj]); exact NW) : Imp P Q := g
theorem ND41.sd {P : Prop} (g : P := by first | exact ⟨Nat.le_refl _, .inr trivial, om, om⟩ | fail) : P := g
set_option maxHeartbeats 1600000 in
open ND41 NZ in
theorem c_ref13_Start (q : QryE) (hq : q.fine) (ht : -9223372036854775808 ≤ q.time ∧ q.time < 9223372036854775808) (H : Heap) (n : Nat) : Ret prog 25 [Ze q] H n (Xa q) H n := by
 have hsz : (Ze q).sz = 10 := ZH q
 have hag : (Ze q).isAgg = true := rfl
 have hmo : (Ze q).memOK = true := rfl
 have hR := MG q
 obtain ⟨z, hz⟩ : ∃ z, z = ZV q := ⟨_, rfl⟩
 unfold Xa
 rw [← hz]
 unfold ZV at hz
 have hql := hsz
 have hst := hsz
 have f1 : (n = n + 1) = False := osi
 have hqf := hq.frm
 have hqt := hq.to
 have hlen := hR.len
 refine Ret.fin ?_
 refine fw func25 ntmps25 results25 ?_
 refine rg zs [1] ?_
 refine rc zs [1, 5, 6] func60 ((Wx q hq ht _ _)) ?_
 refine Zb fun K1 hK1 => ?_
 refine rg zs [1, 5, 6, 14] ?_
 refine Za ?_ ?_ <;> intro hb
 ·rw [if_pos osb] at hz
  refine rg zs [2, 3, 4] ?_
  refine ar ?_
  rw [hz]; exact ⟨_, rfl, fun k hk => oh, .tup (.cons .nilsl (.cons (.kl trivial) (.cons (.kl trivial) .nil)))⟩
 have h0 : (ZW q).2.2 = 0 := osb
 rw [if_neg (by simp [h0])] at hz
 have hmh := mark_has h0
 refine kay ?_
 refine rg zs [1, 5, 7] ?_
 refine ZZ [1, 5, 7] (fun T' H' n' => T' = tl [(1, .loc n 0 0 0 []), (5, .loc (n + 1) 0 0 0 []), (7, bys (if q.rev then q.to else q.frm))] ∧ H' = (H.put n (some (.arr 0 10 [Ze q]))).put (n + 1) (some (.arr 0 3 [KU q])) ∧ n' = n + 2) ?_ ?_
 ·refine rg zs [1, 5, 7, 19] ?_
  refine Za ?_ ?_ <;> intro hb
  ·refine rg1 zs [1, 5, 7] ?_
   refine ns ?_
   rw [hb]; first | rfl | exact ⟨rfl, rfl, rfl⟩ | exact ⟨rfl, rfl⟩
  refine ak ?_
  refine ns ?_
  rw [hb]; first | rfl | exact ⟨rfl, rfl, rfl⟩ | exact ⟨rfl, rfl⟩
 rintro T1 H1 n1 ⟨rfl, rfl, rfl⟩
 refine ZZ [7] (fun T' H' n' => ∃ a js, T' = tl [(7, a)] ∧ LSl js H' a 1 ((if 0 < (ZW q).1 then (if q.rev then (ZW q).2.1 else (ZW q).2.1 ++ [0]) else (if q.rev then q.to else q.frm)).map Zd) ∧ (∀ k, k < n → H' k = H k) ∧ n ≤ n') ?_ ?_
 ·refine rg zs [1, 5, 7, 23] ?_
  refine Za ?_ ?_ <;> intro hb
  ·have hpos : 0 < (ZW q).1 := by rw [hmh] at hb; exact of_decide_eq_true hb
   refine rg zs [1, 7] ?_
   refine rg zs [7, 28] ?_
   refine Za ?_ ?_ <;> intro hb
   ·have hrv : q.rev = false := osb
    refine rk1 zs [7] fun K V => ?_
    refine ck func58 ((by have h9 := Vg (ZW q).2.1 om 0 (ZW q).2.1.length (Nat.zero_le _) (Nat.le_refl _); rw [List.take_length, List.drop_zero] at h9; exact h9 _ _)) ?_
    refine kas ?_
    refine ns ?_
    refine ns ?_
    rw [if_pos hpos, hrv, if_neg osi]; exact ⟨_, [_], rfl, Own.lsl (.osl (els := ((ZW q).2.1 ++ [0]).map Zd) (by rw [NU, List.map_append]; rfl) osi (by rw [List.take_of_length_le osi]; exact Pp _ (WP _))), fun k hk => oh, om⟩
   have hrv : q.rev = true := osb
   refine ak ?_
   refine ns ?_
   rw [if_pos hpos, hrv, if_pos rfl]; exact ⟨_, [], rfl, .ro (ZM _ _), fun k hk => oh, om⟩
  have hpos : ¬ 0 < (ZW q).1 := by rw [hmh] at hb; exact of_decide_eq_false hb
  refine ak ?_
  refine ns ?_
  rw [if_neg hpos]; exact ⟨_, [], rfl, .ro (ZM _ _), fun k hk => oh, om⟩
 obtain ⟨w, hw⟩ : ∃ w, w = (if 0 < (ZW q).1 then (if q.rev then (ZW q).2.1 else (ZW q).2.1 ++ [0]) else (if q.rev then q.to else q.frm)) := ⟨_, rfl⟩
 rw [← hw]
 rintro T1 H1 n1 ⟨a, js, rfl, hL, hlow, hn1⟩
 have hwl : w.length ≤ 1048576 := by rw [hw]; by_cases a9 : 0 < (ZW q).1 <;> cases q.rev <;> simp [a9] <;> omega
 have hst := hL.st
 have hql := hL.len prog 22
 rw [List.length_map] at hql
 have hzz : z = (w, decide (0 < w.length), 0) := by
   rw [hz, hw]
   by_cases hp : 0 < (ZW q).1
   ·rw [if_pos hp, if_pos hp, decide_eq_true]; have h9 := (hR.row hp).2; cases q.rev <;> simp; omega
   ·rw [if_neg hp, if_neg hp]; cases q.rev <;> rfl
 refine rk zs [2, 3, 4] fun K V => ?_
 refine ck func58 ((l_ref1_Part hL om _)) ?_
 refine kas ?_
 refine ar ?_
 rw [hzz, show decide ((0 : Int) < (w.length : Int)) = decide (0 < w.length) from decide_eq_decide.2 om]; exact ⟨_, rfl, hlow, .kl ⟨Xd _ _, trivial, trivial, trivial⟩⟩
theorem NE (fs : List Fml) (hfs : fs.length ≤ 1048576) (q : QryE) (r : RowE) (hcl : r.cells.length ≤ 1048576) (last : Option (List UInt8)) (start : List UInt8) (has : Bool) (H : Heap) (n : Nat) :
   Ret prog 88 [Zf fs, Ze q, Zm r, Jw last, .bool last.isSome, bys start, .bool has] H n (.bool (Wu fs.length q r last start has)) H n := by
 rw [← comesX_eq]
 cases last with
 | none => exact Ret.wk (Jk fs hfs q r hcl [] false start has H n) ⟨.refl _, .refl _, .refl _, .nilsl _, .refl _, .refl _, .refl _, trivial⟩
 | some l => exact Jk fs hfs q r hcl l true start has H n
theorem kl_row (r : RowE) (n : Nat) : (Zm r).kl n := ⟨Xd _ _, XF Zk (fun c => ⟨trivial, Xd _ _, trivial, Xd _ _, trivial⟩) _, trivial⟩
theorem qcE_ok {fs : List Fml} {q : QryE} (h : qcE fs q = 0) : Zx fs = 0 ∧ Xi fs.length q = true ∧ (ZW q).2.2 = 0 := by
 unfold qcE at h
 by_cases h1 : Zx fs ≠ 0
 ·rw [if_pos h1] at h; exact absurd h h1
 rw [if_neg h1] at h
 by_cases h2 : Xi fs.length q = false
 ·rw [if_pos h2] at h; exact absurd h odc
 rw [if_neg h2] at h
 by_cases h3 : 0 < q.whr.length ∧ (Xm fs q.whr).2.1 ≠ 0
 ·rw [if_pos h3] at h; exact absurd h h3.2
 rw [if_neg h3] at h
 exact ⟨by simpa using h1, by simpa using h2, h⟩
theorem atE_ok {q : QryE} {clock : Int} (h : (ZW q).2.2 = 0) : ((atE q clock).2 ≠ 0 ↔ bout clock 1 1099511627776 = true) := by
 unfold atE bout
 by_cases h1 : clock < 1 ∨ 1099511627776 < clock
 ·rw [if_pos h1]; simp; omega
 ·rw [if_neg h1, if_neg (by simp [h])]
  have : ¬ ((decide (clock < 1) || decide (1099511627776 < clock)) = true) := oz
  constructor
  ·intro h2; exfalso; apply h2; split; rfl; split <;> rfl
  ·intro h2; exact absurd h2 this
def gErr (fs : List Fml) (q : QryE) (clock : Int) : Int := if qcE fs q = 0 ∧ bout clock 1 1099511627776 = true then 1 else qcE fs q
def M9 (fs : List Fml) (q : QryE) (clock : Int) (rows : List RowE) (err : Int) : PgE × Nat × Int :=
 if gErr fs q clock ≠ 0 then (pgZ, 0, gErr fs q clock)
 else Lx fs.length q (Yi fs q) (tokB q (atE q clock).1) (ZV q).1 (ZV q).2.1 err 0 none [] rows
theorem goesE_run (fs : List Fml) (q : QryE) (clock : Int) (rows : List RowE) (err : Int) : M9 fs q clock rows err = runE fs q clock (some (rows, err)) := by
 unfold M9 runE
 by_cases h : qcE fs q = 0
 ·obtain ⟨_, _, h3⟩ := qcE_ok h
  have ha := atE_ok (clock := clock) h3
  have hc : ¬ qcE fs q ≠ 0 := by simp [h]
  rw [if_neg hc]
  by_cases hb : bout clock 1 1099511627776 = true
  ·have hg : gErr fs q clock = 1 := if_pos ⟨h, hb⟩
   rw [if_pos (by rw [hg]; decide), if_pos (ha.2 hb), hg]
  ·have hg : gErr fs q clock = 0 := (if_neg (fun e => hb e.2)).trans h
   rw [if_neg (by simp [hg]), if_neg (fun e => hb (ha.1 e))]
   exact M8 (startE_ok q h3) _ _ _ _ (fun l hl => by cases hl)
 ·have hg : gErr fs q clock = qcE fs q := if_neg (fun e => h e.1)
  rw [hg, if_pos h, if_pos h]
theorem frz_pgZ (H : Heap) (n : Nat) (a e : Int) : Frz H n (.tup [.agg [.nilsl, .nilsl, .bool false], .int .i64 a, .int .i64 e]) (.tup [pgAV pgZ, .int .i64 a, .int .i64 e]) :=
 .tup (.cons (.agg (.cons .nilsl (.cons .nilsl (.cons (.kl trivial) .nil)))) (.cons (.kl trivial) (.cons (.kl trivial) .nil)))
theorem frz_pg {H : Heap} {n k ver : Nat} {acc : List RowE} {b : AV} {tok : List UInt8} (d : Bool) (a e : Int) (hk : H k = some (.arr ver 2 (acc.map Zm))) (hn : n ≤ k) (hb : Frz H n b (bys tok)) : Frz H n (.tup [.agg [.osl k ver 0 acc.length, b, .bool d], .int .i64 a, .int .i64 e]) (.tup [pgAV ⟨acc, tok, d⟩, .int .i64 a, .int .i64 e]) :=
 .tup (.cons (.agg (.cons (.osl hk hn osi (by rw [List.drop_zero, List.take_of_length_le osi]; exact XH _ (XF Zm (fun r => kl_row r _) _))) (.cons hb (.cons (.kl trivial) .nil)))) (.cons (.kl trivial) (.cons (.kl trivial) .nil)))
theorem comes_true {nf : Nat} {q : QryE} {x : RowE} {last : Option (List UInt8)} {start : List UInt8} {has : Bool} (h : Wu nf q x last start has = true) : x.row.length ≤ 256 ∧ Xe nf x.cells = false := by
 unfold Wu at h
 simp only [Bool.and_eq_true, Bool.not_eq_true', decide_eq_false_iff_not] at h
 exact ⟨by have := h.1.1.1; omega, h.2⟩
theorem ND50.eqs {P Q : Prop} (g : Imp P Q := by (try simp only [go_sem, seval, hszs, hags, hmos, hszq, hagq, hmoq, hrs, hra, hrm, f1, f2, f3, b1, b2, b3, b4, b5, b6, hnth, e1, g1, g2, g3, g4, g5, Xa, Yu, Nat.add_assoc, List.length_map, Int.toNat_natCast, Zm, Ze, Zt, bys]); exact NW) : Imp P Q := g
theorem ND50.sd {P : Prop} (g : P := by first | exact ⟨rfl, by (simp [AV.sz, AV.szs, AV.memOK]; first | done | fail)⟩ | exact ⟨Nat.le_refl _, .inr trivial, om, om⟩ | fail) : P := g
set_option maxRecDepth 100000 in
set_option maxHeartbeats 6400000 in
open ND50 NZ in
theorem c_ref13_Goes (fs : List Fml) (hfs : fs.length ≤ 1048576) (q : QryE) (hqf : q.fine) (clock : Int) (rows : List RowE) (hrw : Xn rows) (err : Int) (H : Heap) (n : Nat) :
   Ret prog 57 [Zf fs, Ze q, .int .i64 clock, .sl 2 (rows.map Zm), .int .i64 err] H n (.tup [pgAV (M9 fs q clock rows err).1, .int .i64 (M9 fs q clock rows err).2.1, .int .i64 (M9 fs q clock rows err).2.2]) H n := by
 obtain ⟨hrl, hrb⟩ := hrw
 have hszs : (Zf fs).sz = 1 := rfl
 have hags : (Zf fs).isAgg = true := rfl
 have hmos : (Zf fs).memOK = true := rfl
 have hszq : (Ze q).sz = 10 := ZH q
 have hagq : (Ze q).isAgg = true := rfl
 have hmoq : (Ze q).memOK = true := rfl
 have hrs : ∀ r, (Zm r).sz = 2 := Vf
 have hra : ∀ r, (Zm r).isAgg = true := fun _ => rfl
 have hrm : ∀ r, (Zm r).memOK = true := fun _ => rfl
 have f1 : (n = n + 1) = False := osi
 have f2 : (n = n + 2) = False := osi
 have f3 : (n + 1 = n + 2) = False := osi
 have b1 := hszs
 have b2 := hszs
 have b3 := hszs
 have b4 := hszs
 have b5 := hszs
 have b6 := hszs
 have hnth := hszs
 have e1 := hszs
 have g1 := hszs
 have g2 := hszs
 have g3 := hszs
 have g4 := hszs
 have g5 := hszs
 obtain ⟨z, hz⟩ : ∃ z, z = M9 fs q clock rows err := ⟨_, rfl⟩
 rw [← hz]
 unfold M9 at hz
 refine Ret.fin ?_
 refine fw func57 ntmps57 results57 ?_
 refine rg zs [2, 3, 4, 5, 6, 10] ?_
 refine rc zs [2, 3, 4, 5, 6, 10, 13] func38 ((c_ref13_Check fs hfs q hqf _ _)) ?_
 refine ZZ [2, 3, 4, 5, 6, 10, 13] (fun T' H' n' => T' = tl [(2, .int .i64 clock), (3, .sl 2 (rows.map Zm)), (4, .int .i64 err), (5, .loc n 0 0 0 []), (6, .loc (n + 1) 0 0 0 []), (10, .loc (n + 2) 0 0 0 []), (13, .int .i64 (gErr fs q clock))] ∧ H' = ((H.put n (some (.arr 0 1 [Zf fs]))).put (n + 1) (some (.arr 0 10 [Ze q]))).put (n + 2) (some (.arr 0 3 [.agg [.nilsl, .nilsl, .bool false]])) ∧ n' = n + 3) ?_ ?_
 ·refine rk zs [2, 3, 4, 5, 6, 10, 13, 34] fun K V => ?_
  refine cg func68 (fun _ => (Vj clock 1 1099511627776 _ _)) ?_
  apply V; clear V K
  refine Za ?_ ?_ <;> intro hb
  ·have hge : gErr fs q clock = 1 := by unfold gErr; have h9 := hb; simp at h9; rw [if_pos h9]
   refine rg1 zs [2, 3, 4, 5, 6, 10, 13] ?_
   refine ns ?_
   rw [hge]; first | done | rfl | exact ⟨rfl, rfl⟩
  have hge : gErr fs q clock = qcE fs q := by unfold gErr; have h9 := hb; simp at h9; rw [if_neg (fun e => by have := h9 e.1; rw [e.2] at this; cases this)]
  refine ak ?_
  refine ns ?_
  rw [hge]; first | done | rfl | exact ⟨rfl, rfl⟩
 rintro T1 H1 n1 ⟨rfl, rfl, rfl⟩
 refine Zb fun K1 hK1 => ?_
 refine rg zs [2, 3, 4, 5, 6, 10, 13, 36] ?_
 refine Za ?_ ?_ <;> intro hb
 ·rw [if_pos osb] at hz
  refine rg zs [10, 11, 12] ?_
  refine ar ?_
  rw [hz]; exact ⟨_, rfl, fun k hk => oh, frz_pgZ _ _ _ _⟩
 have hg0 : gErr fs q clock = 0 := osb
 rw [if_neg (by simp [hg0])] at hz
 have hc0 : qcE fs q = 0 := by unfold gErr at hg0; split at hg0; cases hg0; exact hg0
 obtain ⟨hsc, hft, hrd⟩ := qcE_ok hc0
 have hti := KZ hft
 refine ak ?_
 apply hK1
 refine rk zs [3, 4, 5, 6, 10, 14] fun K V => ?_
 refine ck func37 ((c_ref13_At q hqf om clock _ _)) ?_
 apply V; clear V K
 refine rk zs [3, 4, 5, 6, 10, 14, 16, 17] fun K V => ?_
 refine ck func25 ((c_ref13_Start q hqf om _ _)) ?_
 apply V; clear V K
 refine rg zs [3, 4, 5, 6, 10, 14, 16, 17, 19] ?_
 refine rg zs [3, 4, 5, 6, 10, 14, 16, 17, 19, 20] ?_
 refine Zb fun K2 hK2 => ?_
 refine rg zs [3, 4, 5, 6, 10, 14, 16, 17, 19, 20, 21] ?_
 refine Zv ?_
 refine Z5 (n + 3) 2 (ver := 0) (e := 3) (els := [.agg [.nilsl, .nilsl, .bool false]]) (els' := [.agg [.osl (n + 4) 0 0 0, .nilsl, .bool false]]) oh ⟨Adp.agg ⟨Adp.nilsl _, .refl _ _, .refl _ _, trivial⟩, trivial⟩ ?_
 refine Zp (fun T' H' n' => ∃ (m ver : Nat) (last : Option (List UInt8)) (acc : List RowE), m ≤ rows.length ∧ acc.length ≤ m ∧ last.isSome = decide (0 < m) ∧ T' = tl [(3, .sl 2 (rows.map Zm)), (4, .int .i64 err), (5, .loc n 0 0 0 []), (6, .loc (n + 1) 0 0 0 []), (10, .loc (n + 2) 0 0 0 []), (14, .int .i64 (atE q clock).1), (16, bys (ZV q).1), (17, .bool (ZV q).2.1), (19, .loc (n + 3) 0 0 0 []), (20, Jw last), (21, .int .i64 m)] ∧ H' n = some (.arr 0 1 [Zf fs]) ∧ H' (n + 1) = some (.arr 0 10 [Ze q]) ∧ H' (n + 2) = some (.arr 0 3 [.agg [.nilsl, .nilsl, .bool false]]) ∧ H' (n + 3) = some (.arr 0 3 [.agg [.osl (n + 4) ver 0 acc.length, .nilsl, .bool false]]) ∧ H' (n + 4) = some (.arr ver 2 (acc.map Zm)) ∧ (∀ k, k < n → H' k = H k) ∧ n + 5 ≤ n' ∧ Lx fs.length q (Yi fs q) (tokB q (atE q clock).1) (ZV q).1 (ZV q).2.1 err m last acc (rows.drop m) = z) (fun T' _ _ => rows.length - iv (T' 21)) ?_ ?_
 ·exact ⟨0, 0, none, [], Nat.zero_le _, Nat.zero_le _, rfl, rfl, ohr, ohr, oh, ohr, ohr, fun k hk => oh, om, by rw [hz, List.drop_zero]⟩
 rintro T1 H1 n1 ⟨m, ver, last, acc, hm, hac, hlm, rfl, b1, b2, b3, b4, b5, hlow, hn1, hzz⟩
 refine Zb fun K3 hK3 => ?_
 refine rg zs [3, 4, 5, 6, 10, 14, 16, 17, 19, 20, 21, 54] ?_
 refine Za ?_ ?_ <;> intro hb
 ·have hci : m < rows.length := ott
  have hnth : nth (rows.map Zm) m = Zm (rows.getD m default) := Zr Zm rows m hci
  rw [drop_at2 rows hci] at hzz
  have hrx := hrb _ (Yo rows hci)
  generalize rows.getD m default = x at *
  unfold Lx at hzz
  have g1 : (n = n1) = False := oz
  have g2 : (n + 1 = n1) = False := oz
  have g3 : (n + 2 = n1) = False := oz
  have g4 : (n + 3 = n1) = False := oz
  have g5 : (n + 4 = n1) = False := oz
  have e1 : IntKind.i64.wrap ((m : Int) + 1) = ((m + 1 : Nat) : Int) := w1 om
  have hdm : decide ((0 : Int) < (m : Int)) = last.isSome := by rw [hlm]; exact decide_eq_decide.2 om
  refine ak ?_
  apply hK3
  refine bk fun K4 hK4 => ?_
  refine rg zs [3, 4, 5, 6, 10, 14, 16, 17, 19, 20, 21, 22] ?_
  refine Zg zs [3, 4, 5, 6, 10, 14, 16, 17, 19, 21, 22, 23] fun K V => ?_
  try simp only [go_sem, seval, hszs, hags, hmos, hszq, hagq, hmoq, hrs, hra, hrm, f1, f2, f3, b1, b2, b3, b4, b5, b6, hnth, e1, g1, g2, g3, g4, g5, Xa, Yu, Nat.add_assoc, List.length_map, Int.toNat_natCast, Zm, Ze, Zt, bys, hszs, hags, hmos, hszq, hagq, hmoq, hrs, hra, hrm, b1, b2, g1, g2, hdm, Yu]
  repeat refine peel ?_
  refine Zq func88 rfl rfl rfl ((NE fs hfs q x hrx.2.1 last (ZV q).1 (ZV q).2.1 _ _)) ?_
  try simp only [go_sem, seval, hszs, hags, hmos, hszq, hagq, hmoq, hrs, hra, hrm, f1, f2, f3, b1, b2, b3, b4, b5, b6, hnth, e1, g1, g2, g3, g4, g5, Xa, Yu, Nat.add_assoc, List.length_map, Int.toNat_natCast, Zm, Ze, Zt, bys, hszs, hags, hmos, hszq, hagq, hmoq, hrs, hra, hrm, b1, b2, g1, g2, hdm, Yu]
  repeat refine peel ?_
  apply V; clear V K
  refine Zb fun K5 hK5 => ?_
  refine rg zs [3, 4, 5, 6, 10, 14, 16, 17, 19, 21, 22, 71] ?_
  refine Za ?_ ?_ <;> intro hb
  ·have hco : Wu fs.length q x last (ZV q).1 (ZV q).2.1 = false := osb
   rw [if_pos hco] at hzz
   refine rg zs [10, 11, 12] ?_
   refine ar ?_
   rw [← hzz]; refine ⟨_, rfl, fun k hk => ?_, frz_pgZ _ _ _ _⟩; refine ohx ?_; exact hlow k hk
  have hco : Wu fs.length q x last (ZV q).1 (ZV q).2.1 = true := osb
  rw [if_neg (by simp [hco])] at hzz
  obtain ⟨h256, hfo⟩ := comes_true hco
  refine ak ?_
  apply hK5
  refine rc zs [3, 4, 5, 6, 10, 14, 16, 17, 19, 21, 22, 24] func89 ((QA q x.row _ _)) ?_
  refine Zb fun K6 hK6 => ?_
  refine rg zs [3, 4, 5, 6, 10, 14, 16, 17, 19, 21, 22, 80] ?_
  refine Za ?_ ?_ <;> intro hb
  ·have has : Wi q x.row = false := osb
   rw [if_pos has] at hzz
   refine rg zs [10, 19, 21] ?_
   refine rg zs [10, 11, 12] ?_
   refine ar ?_
   rw [← hzz]; refine ⟨_, rfl, fun k hk => ?_, frz_pg true _ _ (ver := ver) (k := n + 4) (ohx b5) om .nilsl⟩; refine ohx ?_; exact hlow k hk
  have has : ¬ Wi q x.row = false := osb
  rw [if_neg has] at hzz
  refine ak ?_
  apply hK6
  refine rg zs [3, 4, 5, 6, 10, 14, 16, 17, 19, 20, 21, 22] ?_
  refine rc zs [3, 4, 5, 6, 10, 14, 16, 17, 19, 20, 21, 22, 25] func90 ((NB fs hfs q hqf.fams x hrx.2.1 hrx.2.2 hfo ⟨hsc, parse_ok hc0⟩ _ _)) ?_
  refine Zb fun K7 hK7 => ?_
  refine rg zs [3, 4, 5, 6, 10, 14, 16, 17, 19, 20, 21, 22, 25, 93] ?_
  refine Za ?_ ?_ <;> intro hb
  ·have hch : ZC q (Yi fs q) x.cells = [] := osb
   rw [if_pos hch] at hzz
   refine YR [3, 4, 5, 6, 10, 14, 16, 17, 19, 20, 21] ?_
   simp only [go_sem, seval]
   refine ax ?_
   apply hK4
   refine rg1 zs [3, 4, 5, 6, 10, 14, 16, 17, 19, 20, 21] ?_
   first
   | (refine ⟨⟨m + 1, ver, some x.row, acc, om, om, osi, rfl, ?_⟩, om⟩
      (repeat' apply And.intro) <;> first | rfl | exact hzz | ((try simp only [NV]); (repeat first | rw [if_pos rfl] | rw [if_pos trivial] | rw [if_neg om]); first | done | exact b1 | exact b2 | exact b3 | exact b4 | exact b5) | (intro k hk; refine ohx ?_; exact hlow k hk) | (intro k hk; exact hlow k hk) | omega)
  have hch : ¬ ZC q (Yi fs q) x.cells = [] := osb
  rw [if_neg hch] at hzz
  refine ak ?_
  apply hK7
  refine dx zs [3, 4, 5, 6, 10, 14, 16, 17, 19, 20, 21, 22] [.q, .q, .q, .q, .q, .q, .q, .c, .m, .q, .q, .w [], .q, .w []] [0, 1, 2, 3, 4, 5, 6, 7, 8, 9, 10, 11, 12, 13] [0, 1, 2, 3, 4, 5, 6, 7, 8, 9, 10, 11, 12, 13] fun K V => ?_
  refine cq func58 (fun _ n => (U2 x.row om _ _)) ?_
  apply V; clear V K
  rw [List.take_of_length_le (show (acc.map Zm).length ≤ acc.length by simp)]
  refine ZU (fun H' n' => H' n = some (.arr 0 1 [Zf fs]) ∧ H' (n + 1) = some (.arr 0 10 [Ze q]) ∧ H' (n + 2) = some (.arr 0 3 [.agg [.nilsl, .nilsl, .bool false]]) ∧ H' (n + 3) = some (.arr 0 3 [.agg [.osl (n + 4) (ver + 1) 0 (acc.length + 1), .nilsl, .bool false]]) ∧ H' (n + 4) = some (.arr (ver + 1) 2 ((acc ++ [(⟨x.row, ZC q (Yi fs q) x.cells⟩ : RowE)]).map Zm)) ∧ (∀ k, k < n → H' k = H k) ∧ n + 5 ≤ n' ∧ H' n1 = some (.arr 0 2 [Zm x])) ⟨ohx b1, ohx b2, ohx b3, oh, by refine ohx ?_; rw [List.map_append]; rfl, fun k hk => ohx (hlow k hk), om, ohr⟩ fun H5 n5 ⟨b1, b2, b3, b4, b5, hlow, hn5, b6⟩ => ?_
  refine rg zs [3, 4, 5, 6, 10, 14, 16, 17, 19, 20, 21, 22, 112] ?_
  refine Za ?_ ?_ <;> intro hb
  ·have hrn : ((acc.length + 1 : Nat) : Int) = q.rows := osb
   rw [if_pos hrn] at hzz
   refine Zg zs [10, 19, 21] fun K V => ?_
   try simp only [go_sem, seval, hszs, hags, hmos, hszq, hagq, hmoq, hrs, hra, hrm, f1, f2, f3, b1, b2, b3, b4, b5, b6, hnth, e1, g1, g2, g3, g4, g5, Xa, Yu, Nat.add_assoc, List.length_map, Int.toNat_natCast, Zm, Ze, Zt, bys, hszs, hags, hmos, hszq, hagq, hmoq, hrs, hra, hrm, b2, b4, b6, Zm]
   repeat refine peel ?_
   refine Zq func91 rfl rfl rfl ((Ji q hqf (atE q clock).1 x.row h256 _ _)) ?_
   try simp only [go_sem, seval, hszs, hags, hmos, hszq, hagq, hmoq, hrs, hra, hrm, f1, f2, f3, b1, b2, b3, b4, b5, b6, hnth, e1, g1, g2, g3, g4, g5, Xa, Yu, Nat.add_assoc, List.length_map, Int.toNat_natCast, Zm, Ze, Zt, bys, hszs, hags, hmos, hszq, hagq, hmoq, hrs, hra, hrm, b2, b4, b6, Zm]
   repeat refine peel ?_
   apply V; clear V K
   refine rg zs [10, 11, 12] ?_
   refine ar ?_
   first
   | (rw [← hzz]
      have hal : acc.length + 1 = (acc ++ [(⟨x.row, ZC q (Yi fs q) x.cells⟩ : RowE)]).length := osi
      rw [hal]
      refine ⟨_, rfl, fun k hk => ?_, frz_pg (acc := acc ++ [(⟨x.row, ZC q (Yi fs q) x.cells⟩ : RowE)]) (tok := tokB q (atE q clock).1 x.row) false _ _ (ver := ver + 1) (k := n + 4) ?_ om (.kl (Xd _ _))⟩
      ·refine ohx ?_; exact hlow k hk
      ·refine ohx ?_; exact b5)
  have hrn : ¬ ((acc.length + 1 : Nat) : Int) = q.rows := osb
  rw [if_neg hrn] at hzz
  refine YR [3, 4, 5, 6, 10, 14, 16, 17, 19, 20, 21] ?_
  simp only [go_sem, seval]
  refine ak ?_
  apply hK4
  refine rg1 zs [3, 4, 5, 6, 10, 14, 16, 17, 19, 20, 21] ?_
  first
  | (refine ⟨⟨m + 1, ver + 1, some x.row, acc ++ [(⟨x.row, ZC q (Yi fs q) x.cells⟩ : RowE)], om, by rw [List.length_append]; simp; omega, osi, rfl, ?_⟩, om⟩
     (repeat' apply And.intro) <;> first | rfl | exact hzz | ((try simp only [NV]); (repeat first | rw [if_pos rfl] | rw [if_pos trivial] | rw [if_neg om]); first | done | exact b1 | exact b2 | exact b3 | exact b4 | exact b5) | (intro k hk; refine ohx ?_; exact hlow k hk) | (intro k hk; exact hlow k hk) | omega | (rw [List.length_append]; rfl) | (rw [List.length_append]; exact b4))
 have hci : m = rows.length := otf
 rw [List.drop_eq_nil_of_le om] at hzz
 unfold Lx at hzz
 have e1 : IntKind.i64.wrap ((rows.length : Int) + 1) = ((m + 1 : Nat) : Int) := by rw [hci]; exact w1 om
 refine ax ?_
 apply hK2
 refine Zb fun K8 hK8 => ?_
 refine rg zs [3, 4, 10, 19, 123] ?_
 refine Za ?_ ?_ <;> intro hb
 ·rw [if_pos osb] at hzz
  refine rg zs [10, 11, 12] ?_
  refine ar ?_
  rw [← hzz]; refine ⟨_, rfl, fun k hk => ?_, frz_pgZ _ _ _ _⟩; refine ohx ?_; exact hlow k hk
 rw [if_neg osb] at hzz
 refine ak ?_
 apply hK8
 refine rg zs [3, 10, 19] ?_
 refine rg zs [10, 11, 12] ?_
 refine ar ?_
 rw [← hzz]; refine ⟨_, rfl, fun k hk => ?_, frz_pg true _ _ (ver := ver) (k := n + 4) (ohx b5) om .nilsl⟩; refine ohx ?_; exact hlow k hk
theorem M4 {α : Type} [Inhabited α] {a b : List α} (hl : a.length = b.length) (h : ∀ j, j < a.length → a.getD j default = b.getD j default) : a = b :=
 List.ext_getElem hl fun i h1 h2 => by have := h i h1; simpa [List.getD, List.getElem?_eq_getElem h1, List.getElem?_eq_getElem h2] using this
theorem celE_eq (a b : CelE) : (a = b) ↔ a.fam = b.fam ∧ a.ts = b.ts ∧ a.qual = b.qual ∧ a.value = b.value := by
 cases a; cases b; simp only [CelE.mk.injEq]; constructor <;> (rintro ⟨h1, h2, h3, h4⟩; exact ⟨h1, by assumption, by assumption, by assumption⟩)
theorem ND60.eqs {P Q : Prop} (g : Imp P Q := by (try simp only [go_sem, seval, hcs, hca, hcm, m1, m2, e1, List.length_map, Int.toNat_natCast, Zk]); exact NW) : Imp P Q := g
theorem ND60.sd {P : Prop} (g : P := by first | exact ⟨om, om⟩ | exact fun _ => ⟨om, om⟩ | (intro _ h9; rw [h9]; rfl) | fail) : P := g
set_option maxRecDepth 100000 in
set_option maxHeartbeats 3200000 in
open ND60 NZ in
theorem Km (a b : List CelE) (ha : a.length ≤ 1048576) (hb9 : b.length ≤ 1048576) (H : Heap) (n : Nat) : Ret prog 75 [.sl 4 (a.map Zk), .sl 4 (b.map Zk)] H n (.bool (decide (a = b))) H n := by
 have hcs : ∀ c, (Zk c).sz = 4 := Yn
 have hca : ∀ c, (Zk c).isAgg = true := fun _ => rfl
 have hcm : ∀ c, (Zk c).memOK = true := fun _ => rfl
 have m1 := hcs
 have m2 := hcs
 have e1 := hcs
 refine fw func75 ntmps75 results75 ?_
 refine kb1 ?_
 refine Zb fun K1 hK1 => ?_
 refine rg zs [0, 1, 10] ?_
 refine Za ?_ ?_ <;> intro hb
 ·have hlen : a.length ≠ b.length := by have h9 := hb; simp at h9; omega
  have hres : decide (a = b) = false := decide_eq_false fun e => hlen (by rw [e])
  refine kag ?_
  rw [hres]
 have hlen : a.length = b.length := by have h9 := hb; simp at h9; omega
 refine kay ?_
 refine Zb fun K2 hK2 => ?_
 refine rg zs [0, 1, 5] ?_
 refine kbM ?_
 refine Zp (fun T' H' n' => ∃ i : Nat, i ≤ a.length ∧ (∀ j, j < i → a.getD j default = b.getD j default) ∧ T' = tl [(0, .sl 4 (a.map Zk)), (1, .sl 4 (b.map Zk)), (5, .int .i64 i)] ∧ H' = H ∧ n' = n) (fun T' _ _ => a.length - iv (T' 5)) ?_ ?_
 ·exact kcy
 rintro T1 H1 n1 ⟨i, hi, hfa, rfl, rfl, rfl⟩
 refine Zb fun K3 hK3 => ?_
 refine rg zs [0, 1, 5, 14] ?_
 refine Za ?_ ?_ <;> intro hb
 ·have hci : i < a.length := ott
  have m1 : nth (a.map Zk) i = Zk (a.getD i default) := Zr Zk a i hci
  have m2 : nth (b.map Zk) i = Zk (b.getD i default) := Zr Zk b i om
  have e1 : IntKind.i64.wrap ((i : Int) + 1) = ((i + 1 : Nat) : Int) := w1 om
  obtain ⟨x, hx⟩ : ∃ x, x = a.getD i default := ⟨_, rfl⟩
  obtain ⟨y, hy⟩ : ∃ y, y = b.getD i default := ⟨_, rfl⟩
  rw [← hx] at m1
  rw [← hy] at m2
  refine kba ?_
  refine bk fun K4 hK4 => ?_
  refine dx zs [0, 1, 5, 68] [.m, .m, .q, .q, .q, .m, .m, .q, .q, .q, .q, .m, .m, .m, .q, .q, .q, .m, .m, .q, .q, .q, .q, .q, .m, .m, .m, .q, .q, .q, .m, .m, .q, .q, .q, .c, .q, .q, .m, .m, .m, .q, .q, .q, .m, .m, .q, .q, .q, .c, .q, .q] [0, 1, 2, 3, 4, 5, 6, 7, 8, 9, 10, 11, 12, 13, 14, 15, 16, 17, 18, 19, 20, 21, 22, 23, 24, 25, 26, 27, 28, 29, 30, 31, 32, 33, 34, 35, 36, 37, 38, 39, 40, 41, 42, 43, 44, 45, 46, 47, 48, 49, 50, 51] [0, 1, 2, 3, 4, 5, 6, 7, 8, 9, 10, 11, 12, 13, 14, 15, 16, 17, 18, 19, 20, 21, 22, 23, 24, 25, 26, 27, 28, 29, 30, 31, 32, 33, 34, 35, 36, 37, 38, 39, 40, 41, 42, 43, 44, 45, 46, 47, 48, 49, 50, 51] fun K V => ?_
  refine cq func46 (fun _ n => (Y9 x.qual y.qual _ _)) ?_
  refine cq func46 (fun _ n => (Y9 x.value y.value _ _)) ?_
  refine kas ?_
  refine Za ?_ ?_ <;> intro hb
  ·have hne : a ≠ b := fun e => by
     subst e
     have : x = y := hx.trans hy.symm
     subst this
     simp at hb
   have hres : decide (a = b) = false := decide_eq_false hne
   refine rg zs [4] ?_
   refine ar ?_
   rw [hres]
  have hxy : x = y := by
    refine (celE_eq x y).2 ?_
    have h9 := hb
    simp at h9
    exact ⟨h9.1.1.1, h9.1.1.2, h9.1.2, h9.2⟩
  exact kbi
 have hci : i = a.length := otf
 have hres : decide (a = b) = true := decide_eq_true (M4 hlen (hci ▸ hfa))
 refine ax ?_
 apply hK2
 refine kag ?_
 rw [hres]
theorem ND61.eqs {P Q : Prop} (g : Imp P Q := by (try simp only [go_sem, seval, hcs, hca, hcm, m1, m2, e1, List.length_map, Int.toNat_natCast, Zm]); exact NW) : Imp P Q := g
theorem ND61.sd {P : Prop} (g : P := by first | exact ⟨om, om⟩ | exact fun _ => ⟨om, om⟩ | (intro _ h9; rw [h9]; rfl) | fail) : P := g
open ND61 NZ in
theorem UK (a b : List RowE) (ha : a.length ≤ 1048576) (hb9 : b.length ≤ 1048576) (hac : ∀ x ∈ a, x.cells.length ≤ 1048576) (hbc : ∀ x ∈ b, x.cells.length ≤ 1048576) (H : Heap) (n : Nat) : Ret prog 43 [.sl 2 (a.map Zm), .sl 2 (b.map Zm)] H n (.bool (decide (a = b))) H n := by
 have hcs : ∀ c, (Zm c).sz = 2 := Vf
 have hca : ∀ c, (Zm c).isAgg = true := fun _ => rfl
 have hcm : ∀ c, (Zm c).memOK = true := fun _ => rfl
 have m1 := hcs
 have m2 := hcs
 have e1 := hcs
 refine fw func43 ntmps43 results43 ?_
 refine kb1 ?_
 refine Zb fun K1 hK1 => ?_
 refine rg zs [0, 1, 10] ?_
 refine Za ?_ ?_ <;> intro hb
 ·have hlen : a.length ≠ b.length := by have h9 := hb; simp at h9; omega
  have hres : decide (a = b) = false := decide_eq_false fun e => hlen (by rw [e])
  refine kag ?_
  rw [hres]
 have hlen : a.length = b.length := by have h9 := hb; simp at h9; omega
 refine kay ?_
 refine Zb fun K2 hK2 => ?_
 refine rg zs [0, 1, 5] ?_
 refine kbM ?_
 refine Zp (fun T' H' n' => ∃ i : Nat, i ≤ a.length ∧ (∀ j, j < i → a.getD j default = b.getD j default) ∧ T' = tl [(0, .sl 2 (a.map Zm)), (1, .sl 2 (b.map Zm)), (5, .int .i64 i)] ∧ H' = H ∧ n' = n) (fun T' _ _ => a.length - iv (T' 5)) ?_ ?_
 ·exact kcy
 rintro T1 H1 n1 ⟨i, hi, hfa, rfl, rfl, rfl⟩
 refine Zb fun K3 hK3 => ?_
 refine rg zs [0, 1, 5, 14] ?_
 refine Za ?_ ?_ <;> intro hb
 ·have hci : i < a.length := ott
  have m1 : nth (a.map Zm) i = Zm (a.getD i default) := Zr Zm a i hci
  have m2 : nth (b.map Zm) i = Zm (b.getD i default) := Zr Zm b i om
  have e1 : IntKind.i64.wrap ((i : Int) + 1) = ((i + 1 : Nat) : Int) := w1 om
  have hac1 := hac _ (Yo a hci)
  have hbc1 := hbc _ (Yo b (show i < b.length by omega))
  obtain ⟨x, hx⟩ : ∃ x, x = a.getD i default := ⟨_, rfl⟩
  obtain ⟨y, hy⟩ : ∃ y, y = b.getD i default := ⟨_, rfl⟩
  rw [← hx] at m1 hac1
  rw [← hy] at m2 hbc1
  refine kba ?_
  refine bk fun K4 hK4 => ?_
  refine dx zs [0, 1, 5, 42] [.m, .m, .q, .q, .q, .m, .m, .q, .q, .q, .c, .q, .m, .m, .m, .q, .q, .q, .m, .m, .q, .q, .q, .c, .q, .q] [0, 1, 2, 3, 4, 5, 6, 7, 8, 9, 10, 11, 12, 13, 14, 15, 16, 17, 18, 19, 20, 21, 22, 23, 24, 25] [0, 1, 2, 3, 4, 5, 6, 7, 8, 9, 10, 11, 12, 13, 14, 15, 16, 17, 18, 19, 20, 21, 22, 23, 24, 25] fun K V => ?_
  refine cq func46 (fun _ n => (Y9 x.row y.row _ _)) ?_
  refine cq func75 (fun _ n => (Km x.cells y.cells hac1 hbc1 _ _)) ?_
  refine kas ?_
  refine Za ?_ ?_ <;> intro hb
  ·have hne : a ≠ b := fun e => by
     subst e
     have : x = y := hx.trans hy.symm
     subst this
     simp at hb
   have hres : decide (a = b) = false := decide_eq_false hne
   refine rg zs [4] ?_
   refine ar ?_
   rw [hres]
  have hxy : x = y := by
    have h9 := hb
    simp at h9
    cases x; cases y; simp only [RowE.mk.injEq]; exact h9
  exact kbi
 have hci : i = a.length := otf
 have hres : decide (a = b) = true := decide_eq_true (M4 hlen (hci ▸ hfa))
 refine ax ?_
 apply hK2
 refine kag ?_
 rw [hres]
theorem pgE_eq (a b : PgE) : (a = b) ↔ a.done = b.done ∧ a.token = b.token ∧ a.rows = b.rows := by
 cases a; cases b; simp only [PgE.mk.injEq]; constructor <;> (rintro ⟨h1, h2, h3⟩; exact ⟨by assumption, by assumption, by assumption⟩)
theorem ND62.eqs {P Q : Prop} (g : Imp P Q := by (try simp only [go_sem, seval, hza, hzb, f1, pgAV, bys]); exact NW) : Imp P Q := g
theorem ND62.sd {P : Prop} (g : P := by first | (intro _ h9; rw [h9]; rfl) | fail) : P := g
open ND62 NZ in
theorem Lg (a b : PgE) (ha : a.rows.length ≤ 1048576) (hb9 : b.rows.length ≤ 1048576) (hac : ∀ x ∈ a.rows, x.cells.length ≤ 1048576) (hbc : ∀ x ∈ b.rows, x.cells.length ≤ 1048576) (H : Heap) (n : Nat) : Ret prog 21 [pgAV a, pgAV b] H n (.bool (decide (a = b))) H n := by
 have hza : (pgAV a).sz = 3 := rfl
 have hzb : (pgAV b).sz = 3 := rfl
 have f1 : (n = n + 1) = False := osi
 refine Ret.fin ?_
 refine fw func21 ntmps21 results21 ?_
 refine rg zs [2, 3] ?_
 refine rk zs [4] fun K V => ?_
 refine cg func46 (fun _ => (Y9 a.token b.token _ _)) ?_
 refine cg func43 (fun _ => (UK a.rows b.rows ha hb9 hac hbc _ _)) ?_
 refine kas ?_
 refine ar ?_
 refine ⟨_, rfl, fun k hk => oh, Frz.eq ?_ trivial⟩
 rw [show decide (a = b) = decide (a.done = b.done ∧ a.token = b.token ∧ a.rows = b.rows) from decide_eq_decide.2 (pgE_eq a b)]
 by_cases h1 : a.done = b.done <;> by_cases h2 : a.token = b.token <;> by_cases h3 : a.rows = b.rows <;> simp [h1, h2, h3]
def RunF (rows : List RowE) (err : Int) (ks kw kt lo : Nat) (z : PgE × Nat × Int) (H : Heap) (n : Nat) (res : ARes) (H' : Heap) (n' : Nat) : Prop :=
 n ≤ n' ∧ (∀ k, k < n → k ≠ ks → k ≠ kw → k ≠ kt → H' k = H k) ∧ ∃ vw vt kb tels tk, res = .val (.tup [pgAV z.1, .int .i64 z.2.2]) ∧ SrcS rows err ks kw kt lo z.2.1 vw vt kb tels tk H' n' ∧ kb.length ≤ z.2.1 * 2097153 ∧ ∀ k ∈ tk, n ≤ k
theorem RunK.frz {rows : List RowE} {err : Int} {ks kw kt lo : Nat} {z : PgE × Nat × Int} {H : Heap} {n : Nat} {P : Program} {f : FuncId} {args : List AV} (hlo : ks < n ∧ kw < n ∧ kt < n) (h : Zl P f args H n (RunK rows err ks kw kt lo z H n)) : Zl P f args H n (RunF rows err ks kw kt lo z H n) :=
 h.frzS fun res H1 n1 ⟨h1, h2, a, pk, vw, vt, kb, tels, tk, hr, ho, hd, hp, hs, hkb, ht⟩ => by
   have hne : ∀ k, k ∉ pk → H1.dropS (fun k => k ∈ pk) k = H1 k := fun k hk => PE (S := fun k => k ∈ pk) hk
   have hlow : ∀ k, k < n → k ∉ pk := fun k hk hm => by have := hp k hm; omega
   have e := Pt (j := .i64) (y := z.2.2) ho
   refine ⟨_, _, fun k => k ∈ pk, inferInstance, hr, FzO.own e (fun k hk => hk), h1, fun k a b c d => (hne k (hlow k a)).trans (h2 k a b c d), vw, vt, kb, tels, tk, rfl, hs.on (fun k hk => hne k ?_) (Nat.le_refl _), hkb, fun k hk => (ht k hk).1⟩
   rcases hk with rfl | rfl | rfl | hk
   ·exact hlow _ hlo.1
   ·exact hlow _ hlo.2.1
   ·exact hlow _ hlo.2.2
   ·exact (ht k hk).2
open N0 in
theorem XJ (a b : List UInt8) (H : Heap) (n : Nat) : Ret prog 26 [bys a, bys b] H n (.bool (a == b)) H n := by
 refine fw func26 ntmps26 results26 ?_
 refine kb1 ?_
 refine rc zs [4] func46 ((Y9 a b _ _)) ?_
 refine ar ?_
 trivial
open N0 in
theorem Vk (e : Int) (H : Heap) (n : Nat) : Ret prog 20 [.int .i64 e] H n (.int .i64 e) H n := by
 refine fw func20 ntmps20 results20 ?_
 refine kcu ?_
 refine kal ?_
 trivial
theorem qryE_eq (a b : QryE) : (a = b) ↔ ((((a.frm = b.frm ∧ a.to = b.to) ∧ a.pre = b.pre) ∧ a.token = b.token) ∧ a.fams = b.fams) ∧ ((((a.time = b.time ∧ a.n = b.n) ∧ a.rows = b.rows) ∧ a.rev = b.rev) ∧ a.whr = b.whr) := by
 cases a; cases b; simp only [QryE.mk.injEq]; constructor
 ·rintro ⟨h1, h2, h3, h4, h5, h6, h7, h8, h9, h10⟩; exact ⟨⟨⟨⟨⟨h1, h2⟩, h4⟩, h10⟩, h3⟩, ⟨⟨⟨h5, h6⟩, h7⟩, h8⟩, h9⟩
 ·rintro ⟨⟨⟨⟨⟨h1, h2⟩, h4⟩, h10⟩, h3⟩, ⟨⟨⟨h5, h6⟩, h7⟩, h8⟩, h9⟩; exact ⟨h1, h2, h3, h4, h5, h6, h7, h8, h9, h10⟩
theorem NE10.eqs {P Q : Prop} (g : Imp P Q := by (try simp only [go_sem, seval, hza, haa, hma, hzb, hab, hmb, f1, m1, m2, e1, Ze, Zt, bys, List.length_map, Int.toNat_natCast]); exact NW) : Imp P Q := g
theorem NE10.sd {P : Prop} (g : P := by first | exact ⟨om, om⟩ | (intro _ h9; rw [h9]; rfl) | fail) : P := g
set_option maxRecDepth 100000 in
set_option maxHeartbeats 3200000 in
open NE10 NZ in
theorem Kr (a b : QryE) (ha : a.fams.length ≤ 1048576) (hb9 : b.fams.length ≤ 1048576) (H : Heap) (n : Nat) : Ret prog 44 [Ze a, Ze b] H n (.bool (decide (a = b))) H n := by
 have hza : (Ze a).sz = 10 := ZH a
 have haa : (Ze a).isAgg = true := rfl
 have hma : (Ze a).memOK = true := rfl
 have hzb : (Ze b).sz = 10 := ZH b
 have hab : (Ze b).isAgg = true := rfl
 have hmb : (Ze b).memOK = true := rfl
 have f1 : (n = n + 1) = False := osi
 have m1 := hza
 have m2 := hza
 have e1 := hza
 refine Ret.fin ?_
 refine fw func44 ntmps44 results44 ?_
 refine rg zs [2, 3] ?_
 refine Zb fun K1 hK1 => ?_
 refine rk zs [2, 3, 44] fun K V => ?_
 refine ck func26 ((XJ a.frm b.frm _ _)) ?_
 refine cg func26 (fun _ => (XJ a.to b.to _ _)) ?_
 refine cg func26 (fun _ => (XJ a.pre b.pre _ _)) ?_
 refine cg func26 (fun _ => (XJ a.token b.token _ _)) ?_
 refine kas ?_
 refine Za ?_ ?_ <;> intro hb
 ·have hne : ¬ ((((a.frm = b.frm ∧ a.to = b.to) ∧ a.pre = b.pre) ∧ a.token = b.token) ∧ a.fams.length = b.fams.length) := by rintro ⟨⟨⟨⟨h1, h2⟩, h3⟩, h4⟩, h5⟩; rw [h1, h2, h3, h4, h5] at hb; simp at hb
  have hres : decide (a = b) = false := decide_eq_false fun e => hne (by rw [e]; exact ⟨⟨⟨⟨rfl, rfl⟩, rfl⟩, rfl⟩, rfl⟩)
  refine kag ?_
  exact ⟨_, rfl, fun k hk => oh, Frz.eq (by rw [hres]) trivial⟩
 have hl : (((a.frm = b.frm ∧ a.to = b.to) ∧ a.pre = b.pre) ∧ a.token = b.token) ∧ a.fams.length = b.fams.length := by have h9 := hb; clear hb; simp at h9; refine ⟨⟨⟨⟨h9.1.1.1.1, h9.1.1.1.2⟩, h9.1.1.2⟩, h9.1.2⟩, om⟩
 have hlen := hl.2
 refine kay ?_
 refine Zb fun K2 hK2 => ?_
 refine rg zs [2, 3, 5] ?_
 refine kbM ?_
 refine Zp (fun T' H' n' => ∃ i : Nat, i ≤ a.fams.length ∧ (∀ j, j < i → a.fams.getD j default = b.fams.getD j default) ∧ T' = tl [(2, .loc n 0 0 0 []), (3, .loc (n + 1) 0 0 0 []), (5, .int .i64 i)] ∧ H' = (H.put n (some (.arr 0 10 [Ze a]))).put (n + 1) (some (.arr 0 10 [Ze b])) ∧ n' = n + 2) (fun T' _ _ => a.fams.length - iv (T' 5)) ?_ ?_
 ·exact kcy
 rintro T1 H1 n1 ⟨i, hi, hfa, rfl, rfl, rfl⟩
 refine Zb fun K3 hK3 => ?_
 refine rg zs [2, 3, 5, 49] ?_
 refine Za ?_ ?_ <;> intro hb
 ·have hci : i < a.fams.length := ott
  have m1 : nth (a.fams.map fun x : Int => (.int .i64 x : AV)) i = .int .i64 (a.fams.getD i default) := Zr (fun x : Int => (.int .i64 x : AV)) a.fams i hci
  have m2 : nth (b.fams.map fun x : Int => (.int .i64 x : AV)) i = .int .i64 (b.fams.getD i default) := Zr (fun x : Int => (.int .i64 x : AV)) b.fams i om
  have e1 : IntKind.i64.wrap ((i : Int) + 1) = ((i + 1 : Nat) : Int) := w1 om
  refine kba ?_
  refine bk fun K4 hK4 => ?_
  refine dx zs [2, 3, 5, 62] [.q, .q, .m, .q, .q, .q, .q, .m, .q, .q, .q] [0, 1, 2, 3, 4, 5, 6, 7, 8, 9, 10] [0, 1, 2, 3, 4, 5, 6, 7, 8, 9, 10] fun K V => ?_
  refine kas ?_
  refine Za ?_ ?_ <;> intro hb
  ·have hres : decide (a = b) = false := decide_eq_false fun e => by rw [e] at hb; simp at hb
   refine kag ?_
   exact ⟨_, rfl, fun k hk => oh, Frz.eq (by rw [hres]) trivial⟩
  have hxy : a.fams.getD i default = b.fams.getD i default := by have h9 := hb; simp at h9; exact h9
  refine kb3 ?_
  refine rg1 zs [2, 3, 5] ?_
  exact ⟨⟨i + 1, om, fun j hj => (by rcases Nat.lt_or_ge j i with h9 | h9; exact hfa j h9; rw [show j = i by omega]; exact hxy), rfl⟩, by omega⟩
 have hci : i = a.fams.length := otf
 have hff : a.fams = b.fams := M4 hlen (hci ▸ hfa)
 refine ax ?_
 apply hK2
 refine kag ?_
 first
 | (refine ⟨_, rfl, fun k hk => oh, Frz.eq ?_ trivial⟩
    rw [show decide (a = b) = decide ((((a.time = b.time ∧ a.n = b.n) ∧ a.rows = b.rows) ∧ a.rev = b.rev) ∧ a.whr = b.whr) from decide_eq_decide.2 (by rw [qryE_eq]; exact ⟨fun h => h.2, fun h => ⟨⟨hl.1, hff⟩, h⟩⟩)]
    clear hl
    by_cases h1 : a.time = b.time <;> by_cases h2 : a.n = b.n <;> by_cases h3 : a.rows = b.rows <;> by_cases h4 : a.rev = b.rev <;> by_cases h5 : a.whr = b.whr <;> simp [h1, h2, h3, h4, h5])
structure LdS (q : QryE) (k1 k2 k3 k4 kw kf vf : Nat) (H : Heap) : Prop where
 h1 : H k1 = some (Xu (k1, q.frm))
 h2 : H k2 = some (Xu (k2, q.to))
 h3 : H k3 = some (Xu (k3, q.pre))
 h4 : H k4 = some (Xu (k4, q.token))
 hw : H kw = some (.arr 0 1 [YK (k1, q.frm), YK (k2, q.to), YK (k3, q.pre), YK (k4, q.token)])
 hf : H kf = some (.arr vf 1 ((q.fams ++ [-77]).map fun x : Int => (.int .i64 x : AV)))
 d : (k1 ≠ k2 ∧ k1 ≠ k3 ∧ k1 ≠ k4 ∧ k2 ≠ k3 ∧ k2 ≠ k4 ∧ k3 ≠ k4) ∧ (kw ≠ k1 ∧ kw ≠ k2 ∧ kw ≠ k3 ∧ kw ≠ k4) ∧ (kf ≠ k1 ∧ kf ≠ k2 ∧ kf ≠ k3 ∧ kf ≠ k4 ∧ kf ≠ kw)
def Jg (q : QryE) (k1 k2 k3 k4 kf vf : Nat) : AV := qaX q (.osl k1 2 0 q.frm.length) (.osl k2 2 0 q.to.length) (.osl kf vf 0 q.fams.length) (.osl k3 2 0 q.pre.length) (.osl k4 2 0 q.token.length)
def Xq (q : QryE) (k1 k2 k3 k4 kw kf vf : Nat) : AV := .agg [Jg q k1 k2 k3 k4 kf vf, .osl kw 0 0 4, .osl kf vf 0 (q.fams.length + 1)]
theorem LdS.on {q : QryE} {k1 k2 k3 k4 kw kf vf : Nat} {H H' : Heap} (h : LdS q k1 k2 k3 k4 kw kf vf H) (hH : ∀ k, k = k1 ∨ k = k2 ∨ k = k3 ∨ k = k4 ∨ k = kw ∨ k = kf → H' k = H k) : LdS q k1 k2 k3 k4 kw kf vf H' :=
 ⟨(hH _ osi).trans h.h1, (hH _ osi).trans h.h2, (hH _ osi).trans h.h3, (hH _ osi).trans h.h4, (hH _ osi).trans h.hw, (hH _ osi).trans h.hf, h.d⟩
theorem LdS.ql {q : QryE} {k1 k2 k3 k4 kw kf vf : Nat} {H : Heap} (h : LdS q k1 k2 k3 k4 kw kf vf H) : QL [k1, k2, kf, k3, k4] H q (.osl k1 2 0 q.frm.length) (.osl k2 2 0 q.to.length) (.osl kf vf 0 q.fams.length) (.osl k3 2 0 q.pre.length) (.osl k4 2 0 q.token.length) := by
 have hf : Own H (.osl kf vf 0 q.fams.length) (Zt q.fams) [kf] := .osl h.hf osi (by rw [← List.map_take, List.take_left]; exact Pp _ (fun x hx => by obtain ⟨y, _, rfl⟩ := List.mem_map.1 hx; trivial))
 exact QL.own (VQ h.h1) (VQ h.h2) hf (VQ h.h3) (VQ h.h4)
def LaidK (q : QryE) (H : Heap) (n : Nat) (res : ARes) (H' : Heap) (n' : Nat) : Prop :=
 n ≤ n' ∧ (∀ k, k < n → H' k = H k) ∧ ∃ k1 k2 k3 k4 kw kf vf, res = .val (Xq q k1 k2 k3 k4 kw kf vf) ∧ LdS q k1 k2 k3 k4 kw kf vf H' ∧ ∀ k, k = k1 ∨ k = k2 ∨ k = k3 ∨ k = k4 ∨ k = kw ∨ k = kf → n ≤ k ∧ k < n'
theorem NE20.eqs {P Q : Prop} (g : Imp P Q := by (try simp only [go_sem, seval, hsz, hag, hmo, f1, f2, f3, f4, f5, hE, Ze, Zt, bys, Nat.add_assoc, List.length_map, List.length_append, Int.toNat_natCast, Option.getD_some, Option.getD_none, Nat.sub_zero]); exact NW) : Imp P Q := g
theorem NE20.sd {P : Prop} (g : P := by first | exact ⟨rfl, by (simp [AV.sz, AV.memOK]; first | done | fail)⟩ | exact ⟨om, .inr trivial, om, om⟩ | exact ⟨.inr trivial, om, om⟩ | omega | fail) : P := g
set_option maxRecDepth 100000 in
set_option maxHeartbeats 3200000 in
open NE20 NZ in
theorem x_law13_laid (q : QryE) (hq : q.fine) (H : Heap) (n : Nat) : Zl prog 33 [Ze q] H n (LaidK q H n) := by
 have hsz : (Ze q).sz = 10 := ZH q
 have hag : (Ze q).isAgg = true := rfl
 have hmo : (Ze q).memOK = true := rfl
 have h1 := hq.frm
 have h2 := hq.to
 have h3 := hq.pre
 have h4 := hq.token
 have h5 := hq.fams
 have f1 : (n = n + 1) = False := osi
 have f2 : (n = n + 2) = False := osi
 have f3 : (n + 2 = n) = False := osi
 have f4 : (n = n + 3) = False := osi
 have f5 : (n + 2 = n + 3) = False := osi
 have hE : List.take q.fams.length (List.map (fun x : Int => (.int .i64 x : AV)) q.fams) = List.map (fun x : Int => (.int .i64 x : AV)) q.fams := List.take_of_length_le osi
 refine fw func33 ntmps33 results33 ?_
 refine rg zs [1, 2] ?_
 refine rg zs [1, 2, 3] ?_
 refine Z5 (n + 2) 1 (ver := 0) (e := 12) (els := [.agg [Ze q, .nilsl, .nilsl]]) (els' := [.agg [Ze q, .nilsl, .osl (n + 3) 0 0 0]]) ohr ⟨Adp.agg ⟨.refl _ _, .refl _ _, Adp.nilsl _, trivial⟩, trivial⟩ ?_
 refine rk zs [1, 2, 3, 4, 5] fun K V => ?_
 refine ck func65 ((Xb q.frm om _ _)) ?_
 refine kas ?_
 refine rk zs [1, 2, 3, 4, 5, 6, 7] fun K V => ?_
 refine ck func65 ((Xb q.to om _ _)) ?_
 refine kas ?_
 refine rk zs [1, 2, 3, 4, 5, 6, 7, 8, 9] fun K V => ?_
 refine ck func65 ((Xb q.pre om _ _)) ?_
 refine kas ?_
 refine rk zs [1, 2, 3, 4, 5, 6, 7, 8, 9, 10, 11] fun K V => ?_
 refine ck func65 ((Xb q.token om _ _)) ?_
 refine kas ?_
 refine rg zo [1, 2, 3, 4, 6, 8, 10] ?_
 refine rg zs [1, 2, 3, 4, 6, 8, 10] ?_
 refine rg zs [1, 2, 3, 6, 8, 10] ?_
 refine rg zs [1, 2, 3, 8, 10] ?_
 refine rg zs [1, 2, 3, 10] ?_
 refine rg zs [1, 2, 3] ?_
 refine rg zs [2, 3] ?_
 refine kal ?_
 refine ⟨om, fun k hk => oh, n + 4, n + 5, n + 6, n + 7, n + 8, n + 3, 2, rfl, ⟨oh, oh, oh, oh, ohr, by refine ohx ?_; rw [List.map_append]; rfl, om⟩, fun k hk => om⟩
theorem nth_mem2 {l : List AV} {i : Nat} (h : i < l.length) : nth l i ∈ l := by simp [nth, List.getD, List.getElem?_eq_getElem h]
def ldB (q : QryE) (k1 k2 k3 k4 : Nat) : List (Nat × List UInt8) := [(k1, q.frm), (k2, q.to), (k3, q.pre), (k4, q.token)]
theorem mem_drop {α : Type} [Inhabited α] {l : List α} {i : Nat} (h : i < l.length) : ∀ x ∈ l.drop (i + 1), x ∈ l.drop i := fun x hx => by rw [YM l i h]; exact List.mem_cons_of_mem _ hx
theorem frz_marks {H : Heap} {p : Nat × List UInt8} (h : H p.1 = some (Xu p)) : Frz H 0 (.osl p.1 2 p.2.length 5) (bys Wt) := by
 refine .osl h (Nat.zero_le _) (by simp [Wt]) ?_
 rw [List.map_append, List.drop_append_of_le_length osi, List.drop_of_length_le osi, List.nil_append, List.take_of_length_le (by simp [Wt])]
 exact XH _ (ZM _ _)
def KeptK (q : QryE) (k1 k2 k3 k4 kf : Nat) (H : Heap) (n : Nat) (res : ARes) (H' : Heap) (n' : Nat) : Prop :=
 n ≤ n' ∧ (∀ k, k < n → k ≠ k1 → k ≠ k2 → k ≠ k3 → k ≠ k4 → k ≠ kf → H' k = H k) ∧ res = .val (.bool true)
theorem NE21.eqs {P Q : Prop} (g : Imp P Q := by (try simp only [go_sem, seval, hsz, hag, hmo, f1, f2, b1, b2, b3, b4, g1, g2, g3, g4, hnth, e1, e2, e3, e4, hfn, hf0, g5, g6, hpo1, Xq, Jg, qaX, Ze, Zt, bys, YK, Nat.add_assoc, List.length_map, List.length_append, List.length_cons, List.length_nil, Int.toNat_natCast, Option.getD_some, Option.getD_none, Nat.zero_add]); exact NW) : Imp P Q := g
theorem NE21.sd {P : Prop} (g : P := by first | exact fun _ => ⟨om, om⟩ | (intro _; omega) | exact ⟨om, hez _ (nth_mem2 om)⟩ | fail) : P := g
set_option maxRecDepth 100000 in
set_option maxHeartbeats 6400000 in
open NE21 NZ in
theorem JK (q : QryE) (hq : q.fine) (k1 k2 k3 k4 kw kf vf : Nat) (H : Heap) (n : Nat) (h : LdS q k1 k2 k3 k4 kw kf vf H) (hk : ∀ k, k = k1 ∨ k = k2 ∨ k = k3 ∨ k = k4 ∨ k = kw ∨ k = kf → k < n) :
   Zl prog 35 [Xq q k1 k2 k3 k4 kw kf vf, Ze q] H n (KeptK q k1 k2 k3 k4 kf H n) := by
 have hsz : (Ze q).sz = 10 := ZH q
 have hag : (Ze q).isAgg = true := rfl
 have hmo : (Ze q).memOK = true := rfl
 have d1 := hk k1 osi
 have d2 := hk k2 osi
 have d3 := hk k3 osi
 have d4 := hk k4 osi
 have d5 := hk kw osi
 have d6 := hk kf osi
 obtain ⟨q1, q2, q3⟩ := h.d
 have hB : ∀ p ∈ ldB q k1 k2 k3 k4, p.1 < n ∧ p.1 ≠ kw ∧ p.1 ≠ kf ∧ p.2.length ≤ 1048576 := fun p hp => by
   have h1 := hq.frm; have h2 := hq.to; have h3 := hq.pre; have h4 := hq.token
   simp only [ldB, List.mem_cons, List.not_mem_nil, or_false] at hp
   rcases hp with rfl | rfl | rfl | rfl <;> simp only <;> omega
 have hBd : ((ldB q k1 k2 k3 k4).map (·.1)).Nodup := by simp [ldB]; omega
 have hBl : (ldB q k1 k2 k3 k4).length = 4 := rfl
 have hw0 : H kw = some (.arr 0 1 ((ldB q k1 k2 k3 k4).map YK)) := h.hw
 have hb0 : ∀ p ∈ ldB q k1 k2 k3 k4, H p.1 = some (Xu p) := fun p hp => by
   simp only [ldB, List.mem_cons, List.not_mem_nil, or_false] at hp
   rcases hp with rfl | rfl | rfl | rfl
   ·exact h.h1
   ·exact h.h2
   ·exact h.h3
   ·exact h.h4
 have hf0 := h.hf
 have hfl := hq.fams
 have hsQ : ∀ (Hc : Heap), (∀ k, k < n → Hc k = H k) → ∀ m, Ret prog 44 [Jg q k1 k2 k3 k4 kf vf, Ze q] Hc m (.bool true) Hc m := fun Hc hc m => by
   have := Kr q q hq.fams hq.fams (fun _ => none) 0
   rw [decide_eq_true rfl] at this
   exact Ret.lend trivial (.cons (h.on fun k hk2 => hc k (hk k hk2)).ql.frz (.cons (.kl (kl_qry q 0)) .nil)) this
 have f1 : (n = n + 1) = False := osi
 have f2 : (n + 1 = n) = False := osi
 have b1 := hsz
 have b2 := hsz
 have b3 := hsz
 have b4 := hsz
 have g1 : (kf = n) = False := oz
 have g2 : (kf = n + 1) = False := oz
 have g3 : (kw = n) = False := oz
 have g4 : (kw = n + 1) = False := oz
 have hnth := hsz
 have e1 := hsz
 have e2 := hsz
 have e3 := hsz
 have e4 := hsz
 have g5 := hsz
 have g6 := hsz
 have hpo1 := hsz
 have hfn : nth (List.map (fun x : Int => (.int .i64 x : AV)) (q.fams ++ [-77])) q.fams.length = .int .i64 (-77) := by
   rw [Zr (fun x : Int => (.int .i64 x : AV)) (q.fams ++ [-77]) q.fams.length osi]; simp [List.getD]
 refine fw func35 ntmps35 results35 ?_
 refine rg zs [2, 3] ?_
 refine rk zs [2, 5] fun K V => ?_
 refine ck func44 ((hsQ _ (fun k hk => oh) _)) ?_
 apply V; clear V K
 refine Zb fun K1 hK1 => ?_
 refine rg zs [2, 5, 6] ?_
 refine Zv ?_
 refine Zp (fun T' H' n' => ∃ i : Nat, i ≤ 4 ∧ T' = tl [(2, .loc n 0 0 0 []), (5, .bool true), (6, .int .i64 i)] ∧ H' n = some (.arr 0 12 [Xq q k1 k2 k3 k4 kw kf vf]) ∧ H' kw = some (.arr 0 1 ((ldB q k1 k2 k3 k4).map YK)) ∧ H' kf = some (.arr vf 1 ((q.fams ++ [-77]).map fun x : Int => (.int .i64 x : AV))) ∧ (∀ p ∈ (ldB q k1 k2 k3 k4).drop i, H' p.1 = some (Xu p)) ∧ (∀ k, k < n → k ≠ k1 → k ≠ k2 → k ≠ k3 → k ≠ k4 → k ≠ kf → H' k = H k) ∧ n' = n + 2) (fun T' _ _ => 4 - iv (T' 6)) ?_ ?_
 ·exact ⟨0, om, rfl, ohr, ohx hw0, ohx hf0, fun p hp => by have := hB p hp; refine ohx ?_; exact hb0 p hp, fun k a1 a2 a3 a4 a5 a6 => oh, rfl⟩
 rintro T1 H1 n1 ⟨i, hi, rfl, b1, b2, b3, hdr, hlow, rfl⟩
 unfold Xq Jg qaX at b1
 refine Zb fun K2 hK2 => ?_
 refine rg zs [2, 5, 6, 28] ?_
 refine Za ?_ ?_ <;> intro hb
 ·have hci : i < (ldB q k1 k2 k3 k4).length := by rw [hBl]; have := of_decide_eq_true hb; omega
  have hnth : nth ((ldB q k1 k2 k3 k4).map YK) i = YK ((ldB q k1 k2 k3 k4).getD i default) := Zr YK _ i hci
  have hpm := Yo (ldB q k1 k2 k3 k4) hci
  have hpd : (ldB q k1 k2 k3 k4).getD i default ∈ (ldB q k1 k2 k3 k4).drop i := by rw [YM _ i hci]; simp
  have hpo := hdr _ hpd
  have hne : ∀ p ∈ (ldB q k1 k2 k3 k4).drop (i + 1), p.1 ≠ ((ldB q k1 k2 k3 k4).getD i default).1 := fun p hp e => by
    have hn := hBd
    rw [← List.take_append_drop i (ldB q k1 k2 k3 k4), YM _ i hci, List.map_append, List.map_cons, List.nodup_append] at hn
    exact (List.nodup_cons.1 hn.2.1).1 (List.mem_map.2 ⟨p, hp, e⟩)
  have hB1 := hB _ hpm
  have hpk : ((ldB q k1 k2 k3 k4).getD i default).1 = k1 ∨ ((ldB q k1 k2 k3 k4).getD i default).1 = k2 ∨ ((ldB q k1 k2 k3 k4).getD i default).1 = k3 ∨ ((ldB q k1 k2 k3 k4).getD i default).1 = k4 := by simp only [ldB, List.mem_cons, List.not_mem_nil, or_false] at hpm; rcases hpm with e | e | e | e <;> rw [show (ldB q k1 k2 k3 k4).getD i default = _ from e] <;> simp
  generalize (ldB q k1 k2 k3 k4).getD i default = p at *
  have e1 : IntKind.i64.wrap ((i : Int) + 1) = ((i + 1 : Nat) : Int) := w1 om
  have e2 : IntKind.i64.wrap (((p.2.length + 5 : Nat) : Int) - 5) = (p.2.length : Int) := by rw [w64 om om]; omega
  have e4 : p.2.length + 5 - p.2.length = 5 := om
  have g5 : (n = p.1) = False := oz
  have g6 : (kw = p.1) = False := oz
  have hpo1 := hpo
  unfold Xu at hpo1
  have hsm : ∀ (Hc : Heap), Hc p.1 = some (Xu p) → ∀ m, Ret prog 26 [.osl p.1 2 p.2.length 5, bys Wt] Hc m (.bool true) Hc m := fun Hc hc m => by
    exact kbC
  refine ak ?_
  apply hK2
  refine bk fun K3 hK3 => ?_
  refine rg zs [2, 5, 6, 7] ?_
  refine rk zs [2, 5, 6] fun K V => ?_
  refine cg func26 (fun _ => (hsm _ hpo _)) ?_
  apply V; clear V K
  refine rg zs [2, 5, 6, 8] ?_
  refine Zv ?_
  refine Zp (fun T' H' n' => ∃ (j : Nat) (els : List AV), j ≤ p.2.length + 5 ∧ els.length = p.2.length + 5 ∧ (∀ x ∈ els, x.sz = 1) ∧ T' = tl [(2, .loc n 0 0 0 []), (5, .bool true), (6, .int .i64 i), (8, .int .i64 j)] ∧ H' n = some (.arr 0 12 [Xq q k1 k2 k3 k4 kw kf vf]) ∧ H' kw = some (.arr 0 1 ((ldB q k1 k2 k3 k4).map YK)) ∧ H' kf = some (.arr vf 1 ((q.fams ++ [-77]).map fun x : Int => (.int .i64 x : AV))) ∧ H' p.1 = some (.arr 2 1 els) ∧ (∀ p ∈ (ldB q k1 k2 k3 k4).drop (i + 1), H' p.1 = some (Xu p)) ∧ (∀ k, k < n → k ≠ k1 → k ≠ k2 → k ≠ k3 → k ≠ k4 → k ≠ kf → H' k = H k) ∧ n' = n + 2) (fun T' _ _ => p.2.length + 5 - iv (T' 8)) ?_ ?_
  ·exact ⟨0, (p.2 ++ Wt).map Zd, om, by simp [Wt], (fun x hx => by obtain ⟨y, _, rfl⟩ := List.mem_map.1 hx; rfl), rfl, b1, b2, b3, hpo, fun p hp => hdr p (mem_drop hci p hp), hlow, rfl⟩
  rintro T1 H1 n1 ⟨j, els, hj, hel, hez, rfl, b1, b2, b3, b4, hdr2, hlow2, rfl⟩
  unfold Xq Jg qaX at b1
  refine Zb fun K4 hK4 => ?_
  refine rg zs [2, 5, 6, 8, 57] ?_
  refine Za ?_ ?_ <;> intro hb
  ·have hcj : j < p.2.length + 5 := ott
   have e3 : IntKind.i64.wrap ((j : Int) + 1) = ((j + 1 : Nat) : Int) := w1 om
   have g7 : (n = p.1) = False := g5
   refine ak ?_
   apply hK4
   refine bk fun K5 hK5 => ?_
   refine rg1 zs [2, 5, 6, 8] ?_
   apply hK5
   refine rg1 zs [2, 5, 6, 8] ?_
   refine ⟨⟨j + 1, els.set j (.int .u8 99), om, by rw [List.length_set]; exact hel, fun x hx => ?_, rfl, ?_⟩, om⟩
   ·rcases List.mem_or_eq_of_mem_set hx with h9 | h9; exact hez x h9; rw [h9]; rfl
   ·(repeat' apply And.intro) <;> first | rfl | ((try simp only [NV]); (repeat first | rw [if_pos rfl] | rw [if_pos trivial] | rw [if_neg om]); first | done | exact b1 | exact b2 | exact b3 | exact b4) | (intro p2 hp2; have := hne p2 hp2; refine ohx ?_; exact hdr2 p2 hp2) | (intro k a1 a2 a3 a4 a5 a6; refine ohx ?_; exact hlow2 k a1 a2 a3 a4 a5 a6) | omega
  refine ax ?_
  apply hK3
  refine rg1 zs [2, 5, 6] ?_
  refine ⟨⟨i + 1, om, rfl, ?_⟩, om⟩
  (repeat' apply And.intro) <;> first | rfl | exact b1 | exact b2 | exact b3 | exact hdr2 | exact hlow2
 have hci : i = 4 := otf
 refine ax ?_
 apply hK1
 refine Zb fun K6 hK6 => ?_
 refine rg zs [2, 5, 9] ?_
 refine Zv ?_
 refine Zp (fun T' H' n' => ∃ (j : Nat) (els : List AV), j ≤ q.fams.length + 1 ∧ els.length = q.fams.length + 1 ∧ (∀ x ∈ els, x.sz = 1) ∧ T' = tl [(2, .loc n 0 0 0 []), (5, .bool true), (9, .int .i64 j)] ∧ H' n = some (.arr 0 12 [Xq q k1 k2 k3 k4 kw kf vf]) ∧ H' kf = some (.arr vf 1 els) ∧ (∀ k, k < n → k ≠ k1 → k ≠ k2 → k ≠ k3 → k ≠ k4 → k ≠ kf → H' k = H k) ∧ n' = n + 2) (fun T' _ _ => q.fams.length + 1 - iv (T' 9)) ?_ ?_
 ·exact ⟨0, _, om, osi, (fun x hx => by obtain ⟨y, _, rfl⟩ := List.mem_map.1 hx; rfl), rfl, b1, b3, hlow, rfl⟩
 rintro T1 H1 n1 ⟨j, els, hj, hel, hez, rfl, b1, b3, hlow, rfl⟩
 unfold Xq Jg qaX at b1
 refine Zb fun K7 hK7 => ?_
 refine rg zs [2, 5, 9, 71] ?_
 refine Za ?_ ?_ <;> intro hb
 ·have hcj : j < q.fams.length + 1 := ott
  have e3 : IntKind.i64.wrap ((j : Int) + 1) = ((j + 1 : Nat) : Int) := w1 om
  refine ak ?_
  apply hK7
  refine bk fun K8 hK8 => ?_
  refine rg1 zs [2, 5, 9] ?_
  apply hK8
  refine rg1 zs [2, 5, 9] ?_
  refine ⟨⟨j + 1, els.set j (.int .i64 (-99)), om, by rw [List.length_set]; exact hel, fun x hx => ?_, rfl, ?_⟩, om⟩
  ·rcases List.mem_or_eq_of_mem_set hx with h9 | h9; exact hez x h9; rw [h9]; rfl
  ·(repeat' apply And.intro) <;> first | rfl | ((try simp only [NV]); (repeat first | rw [if_pos rfl] | rw [if_pos trivial] | rw [if_neg om]); first | done | exact b1 | exact b3) | (intro k a1 a2 a3 a4 a5 a6; refine ohx ?_; exact hlow k a1 a2 a3 a4 a5 a6) | omega
 refine ax ?_
 apply hK6
 refine rg zs [4] ?_
 refine ar ?_
 exact ⟨om, hlow, rfl⟩
end Go.Proofs.YtkmkbndcekklmaaGreatDoor