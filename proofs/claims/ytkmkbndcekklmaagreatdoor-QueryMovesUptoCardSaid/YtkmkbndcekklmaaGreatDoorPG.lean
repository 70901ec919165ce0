/- Own layer: walks through the leaves. Of the program; no condition. -/
import Derived.Test.YtkmkbndcekklmaaGreatDoorPD
import Derived.Test.YtkmkbndcekklmaaGreatDoorPF
import Derived.Test.YtkmkbndcekklmaaGreatDoorPE
set_option linter.unusedSimpArgs false
set_option linter.unusedVariables false
set_option maxRecDepth 10000
namespace Go.Proofs.YtkmkbndcekklmaaGreatDoor
open Go Go.Sx Go.Rt Go.Proofs Tryz
open N0 in
theorem Wq (x lo hi : Int) (H : Heap) (n : Nat) : Ret prog 100 [.int .i64 x, .int .i64 lo, .int .i64 hi] H n (.bool (bout x lo hi)) H n := by
 refine fw func100 ntmps100 results100 ?_
 exact kbp
open N0 in
theorem JB (b : UInt8) (H : Heap) (n : Nat) : Ret prog 135 [Zd b] H n (.bool (Xm b)) H n := by
 refine fw func135 ntmps135 results135 ?_
 refine kcu ?_
 refine kal ?_
 unfold Xm; by_cases h : 97 ≤ (b.toNat : Int) <;> simp [h]
theorem NB0.eqs {P Q : Prop} (g : Imp P Q := by (try simp only [go_sem, seval]); exact Pm) : Imp P Q := g
theorem NB0.sd {P : Prop} (g : P := by first | exact Yl _ | fail) : P := g
open NB0 NZ in
theorem Us (a b : List UInt8) (H : Heap) (n : Nat) : Ret prog 96 [bys a, bys b] H n (.bool (a == b)) H n := by
 refine fw func96 ntmps96 results96 ?_
 refine kb1 ?_
 refine kag ?_
 rw [Zq, Zq]
open N0 in
theorem LK (a : Int) (H : Heap) (n : Nat) : Ret prog 170 [.int .i64 a] H n (.bool false) H n := by
 refine fw func170 ntmps170 results170 ?_
 refine kcu ?_
 refine kal ?_
 simp
end Go.Proofs.YtkmkbndcekklmaaGreatDoor
set_option maxRecDepth 10000
namespace Go.Proofs.YtkmkbndcekklmaaGreatDoor
open Go Go.Sx Go.Rt Go.Proofs
end Go.Proofs.YtkmkbndcekklmaaGreatDoor
set_option maxRecDepth 10000
namespace Go.Proofs.YtkmkbndcekklmaaGreatDoor
open Go Go.Sx Go.Rt Go.Proofs Tryz
theorem NJd0.eqs {P Q : Prop} (g : Imp P Q := by (try simp only [go_sem, seval]); exact Pm) : Imp P Q := g
open NJd0 NY in
theorem Xo (v : Nat) (hv : v < 18446744073709551616) (H : Heap) (n : Nat) : Ret prog 83 [.int .u64 v] H n (.osl n (Zh v).length 0 (Zh v).length) (H.put n (some (.arr (Zh v).length 1 ((Zh v).map Zd)))) (n + 1) := by
 have hlen := Zl hv
 refine fw func83 ntmps83 results83 ?_
 refine kcu ?_
 refine rg zs [0, 3] ?_
 refine bk fun K1 hK1 => ?_
 refine Z8 3 1 rfl ?_
 refine Yp [0, 3] ?_
 simp only [go_sem, seval]
 refine Zp (fun T' H' n' => ∃ (b : List UInt8) (x : Nat), b ++ Zh x = Zh v ∧ x < 18446744073709551616 ∧ T' = tl [(0, .int .u64 x), (3, .osl n b.length 0 b.length)] ∧ H' = H.put n (some (.arr b.length 1 (b.map Zd))) ∧ n' = n + 1) (fun T' _ _ => iv (T' 0)) ?_ ?_
 ·exact ⟨[], v, rfl, hv, rfl, rfl, rfl⟩
 rintro T1 H1 n1 ⟨b, x, hbx, hx, rfl, rfl, rfl⟩
 refine Za fun K2 hK2 => ?_
 refine rg zs [0, 3, 5] ?_
 refine Zb ?_ ?_ <;> intro hb
 ·have hge : 128 ≤ x := ott
  rw [Qk hge] at hbx
  have hbl : b.length ≤ 10 := by have := congrArg List.length hbx; simp at this; omega
  refine kaQ ?_
  refine kbM ?_
  refine Zf zs [0, 3] fun K V => ?_
  try simp only [go_sem, seval, or128, List.length_map, List.take_length, Qa, List.take_of_length_le]
  repeat (first | (refine And.intro ?_ ?_; · first | exact ⟨rfl, by simp [AV.sz, AV.memOK]⟩ | exact ⟨om, .inr trivial, om, om⟩) | refine peel ?_)
  refine kas ?_
  refine ZG zs [0, 3] fun K V => ?_
  try simp only [go_sem, seval, shr7]
  refine kad ?_
  exact ka7
 exact kaq
theorem NJd1.eqs {P Q : Prop} (g : Imp P Q := by (try simp only [go_sem, seval, List.length_map, ZZ, hu]); exact Pm) : Imp P Q := g
theorem NJd1.sd {P : Prop} (g : P := by first | exact ⟨om, .inr trivial, om, om⟩ | fail) : P := g
open NJd1 NZ in
theorem Wj (b : List UInt8) (hb : b.length ≤ 1099511627776) (H : Heap) (n : Nat) : Ret prog 84 [bys b] H n (.osl n ((Zh b.length).length + 1) 0 (Zk b).length) (H.put n (some (.arr ((Zh b.length).length + 1) 1 ((Zk b).map Zd)))) (n + 1) := by
 have hlen := Zl (v := b.length) om
 have hu : u64 (b.length : Int) = b.length := X8 _ om
 refine fw func84 ntmps84 results84 ?_
 refine kcu ?_
 refine rk zs [2] fun K V => ?_
 refine ck func83 ((Xo b.length om _ _)) ?_
 refine kas ?_
 exact kbR
end Go.Proofs.YtkmkbndcekklmaaGreatDoor
set_option maxRecDepth 10000
namespace Go.Proofs.YtkmkbndcekklmaaGreatDoor
open Go Go.Sx Go.Rt Go.Proofs
end Go.Proofs.YtkmkbndcekklmaaGreatDoor
set_option maxRecDepth 10000
namespace Go.Proofs.YtkmkbndcekklmaaGreatDoor
open Go Go.Sx Go.Rt Go.Proofs Tryz
theorem NC0.eqs {P Q : Prop} (g : Imp P Q := by (try simp only [go_sem, seval]); exact Pm) : Imp P Q := g
theorem NC0.sd {P : Prop} (g : P := by first | (intro h; simp [bout] at h; omega) | fail) : P := g
open NC0 NZ in
theorem c_cell_named (s : List UInt8) (H : Heap) (n : Nat) : Ret prog 101 [.str s] H n (.bool (Y6 s)) H n := by
 refine fw func101 ntmps101 results101 ?_
 refine kcu ?_
 refine Za fun K1 hK1 => ?_
 refine rk zs [0, 13] fun K V => ?_
 refine ck func100 ((by apply Wq <;> first | assumption | omega)) ?_
 refine cg func135 (fun _ => (by apply JB <;> first | assumption | omega)) ?_
 refine kas ?_
 refine Zb ?_ ?_ <;> intro hb
 ·refine Zf zs [2] fun K V => ?_
  simp only [go_sem, implies_true, true_and, and_true, List.map_cons, List.map_nil, ↓reduceIte, Nat.reduceLT]
  refine V _ _ _ (awp_ret ?_)
  simp only [go_sem, ↓reduceIte, implies_true, true_and, and_true]
  cases h1 : bout s.length 1 32 <;> simp_all [Y6]
 have h13 : bout s.length 1 32 = false ∧ Xm (s.getD 0 0) = true := by cases h1 : bout s.length 1 32 <;> simp_all
 have hlen := Qb h13.1
 refine kay ?_
 refine Za fun K2 hK2 => ?_
 refine rg zs [0, 15, 16] ?_
 refine kbM ?_
 refine Zp (fun T' H' n' => ∃ i : Nat, i ≤ s.length ∧ T' = tl [(0, .str s), (15, .int .i64 s.length), (16, .int .i64 i)] ∧ H' = H ∧ n' = n ∧ (s.drop i).all Va = s.all Va) (fun T' _ _ => s.length - iv (T' 16)) ?_ ?_
 ·exact ⟨0, Nat.zero_le _, rfl, rfl, rfl, osi⟩
 rintro T1 H1 n1 ⟨i, hi, rfl, rfl, rfl, hall⟩
 refine rg zs [0, 15, 16, 17] ?_
 refine Za fun K3 hK3 => ?_
 refine Zb ?_ ?_ <;> intro hb
 ·have hlt : i < s.length := osb
  rw [X4 s i hlt, List.all_cons] at hall
  refine kba ?_
  refine bk fun K4 hK4 => ?_
  refine rg zs [0, 3, 15, 16] ?_
  refine rg zs [0, 4, 15, 16] ?_
  refine rk zs [0, 15, 16, 36] fun K V => ?_
  refine ck func135 ((by apply JB <;> first | assumption | omega)) ?_
  refine kas ?_
  refine Zb ?_ ?_ <;> intro hb
  ·have hc : Va (s.getD i 0) = false := by unfold Va; exact congrArg (!·) hb
   have hend : Y6 s = false := by
     have : s.all Va = false := by rw [← hall]; show (Va (s.getD i 0) && _) = false; rw [hc]; rfl
     simp [Y6, this]
   refine kal ?_
   rw [hend]
  have hc : Va (s.getD i 0) = true := by unfold Va; exact congrArg (!·) hb
  refine kb3 ?_
  refine rg1 zs [0, 15, 16] ?_
  refine ⟨⟨i + 1, om, by rw [w1 om], ?_⟩, by rw [w1 om]; simp; omega⟩
  rw [← hall]; show _ = (Va (s.getD i 0) && _); rw [hc]; rfl
 have hge : i = s.length := by simp at hb; omega
 have hend : Y6 s = true := by
   have : s.all Va = true := by rw [← hall, hge]; simp
   simp only [Y6, this, h13.1, h13.2]; rfl
 refine ax ?_
 apply hK2
 refine kal ?_
 rw [hend]
open N0 in
theorem Ur (s : List Fml) (name : List UInt8) (hl : s.length ≤ 1048576) (H : Heap) (n : Nat) : Ret prog 102 [Zi s, .str name] H n (.int .i64 (XB s name 0)) H n := by
 refine Ret.fin ?_
 refine fw func102 ntmps102 results102 ?_
 refine rg zs [1, 2] ?_
 refine Za fun K1 hK1 => ?_
 refine rg zs [1, 8, 9, 10] ?_
 refine kbM ?_
 refine Zp (fun T' H' n' => ∃ i : Nat, i ≤ s.length ∧ T' = tl [(1, .str name), (8, .sl 3 (s.map YM)), (9, .int .i64 s.length), (10, .int .i64 i)] ∧ n ≤ n' ∧ (∀ k, k < n → H' k = H k) ∧ XB (s.drop i) name i = XB s name 0) (fun T' _ _ => s.length - iv (T' 10)) ?_ ?_
 ·refine ⟨0, Nat.zero_le _, by rw [List.length_map]; rfl, om, ?_, rfl⟩
  intro k hk; have h0 : k ≠ n := om
  simp [Heap.put, h0]
 rintro T1 H1 n1 ⟨i, hi, rfl, hn, hH, hix⟩
 refine rg zs [1, 8, 9, 10, 11] ?_
 refine Za fun K2 hK2 => ?_
 refine Zb ?_ ?_ <;> intro hb
 ·have hlt : i < s.length := osb
  rw [X4 s i hlt, XB] at hix
  refine kaQ ?_
  refine bk fun K3 hK3 => ?_
  have hnth : nth (s.map YM) i = YM (s.getD i default) := Zx YM s i hlt
  refine Zf zs [1, 5, 6, 8, 9, 10] fun K V => ?_
  try simp only [go_sem, seval, Int.toNat_natCast, hnth]
  refine kad ?_
  refine Zf zs [1, 5, 8, 9, 10, 18] fun K V => ?_
  try simp only [go_sem, seval, Int.toNat_natCast]
  refine kad ?_
  refine Zb ?_ ?_ <;> intro hb
  ·have he : (s.getD i default).name = name := osb
   rw [if_pos he] at hix
   refine kag ?_
   exact kci
  have he : ¬ (s.getD i default).name = name := osb
  rw [if_neg he] at hix
  refine kba ?_
  refine rg1 zs [1, 8, 9, 10] ?_
  refine ⟨⟨i + 1, om, by rw [w1 om], om, ?_, hix⟩, by rw [w1 om]; simp; omega⟩
  intro k hk; have h0 : k ≠ n1 := om
  simp [h0, hH k hk]
 have hge : i = s.length := by simp at hb; omega
 have hix : (-1 : Int) = XB s name 0 := by rw [← hix, hge]; simp [XB]
 refine ax ?_
 apply hK1
 refine kag ?_
 exact kci
open N0 in
theorem c_cmp_Compare (x y : Int) (H : Heap) (n : Nat) : Ret prog 165 [.int .i64 x, .int .i64 y] H n (.int .i64 (cmpI x y)) H n := by
 refine fw func165 ntmps165 results165 ?_
 refine kb1 ?_
 refine rk zs [0, 1, 5] fun K V => ?_
 refine ck func170 ((by apply LK <;> first | assumption | omega)) ?_
 refine kas ?_
 refine rk zs [0, 1, 5, 6] fun K V => ?_
 refine ck func170 ((by apply LK <;> first | assumption | omega)) ?_
 refine kas ?_
 refine Za fun K1 hK1 => ?_
 refine rg zs [0, 1, 6, 11] ?_
 refine Zb ?_ ?_ <;> intro hb
 ·refine Za fun K2 hK2 => ?_
  refine rg zs [12] ?_
  refine Zb ?_ ?_ <;> intro hb
  ·refine kag ?_
   simp_all [cmpI]; done
  refine kaQ ?_
  refine kag ?_
  simp_all [cmpI]; done
 refine kay ?_
 refine Za fun K3 hK3 => ?_
 refine rg zs [0, 1, 13] ?_
 refine Zb ?_ ?_ <;> intro hb
 ·refine kag ?_
  simp_all [cmpI]; done
 refine kba ?_
 refine Za fun K4 hK4 => ?_
 refine rg zs [0, 1, 16] ?_
 refine Zb ?_ ?_ <;> intro hb
 ·refine kag ?_
  simp_all [cmpI]; done
 refine kb3 ?_
 refine Za fun K5 hK5 => ?_
 refine rg zs [19] ?_
 refine Zb ?_ ?_ <;> intro hb
 ·refine kag ?_
  simp_all [cmpI]; done
 refine ak ?_
 apply hK5
 refine kag ?_
 simp_all [cmpI]; rw [if_neg om, if_neg om]
open N0 in
theorem Yb (a b : List UInt8) (H : Heap) (n : Nat) : Ret prog 54 [bys a, bys b] H n (.int .i64 (Lib.compareBytes a b)) H n := by
 refine fw func54 ntmps54 results54 ?_
 refine kb1 ?_
 refine rk zs [4] fun K V => ?_
 refine .inr (Le func81 rfl rfl odc rfl a b ?_)
 refine nz ?_
 refine kas ?_
 refine ar ?_
 trivial
end Go.Proofs.YtkmkbndcekklmaaGreatDoor
set_option maxRecDepth 10000
namespace Go.Proofs.YtkmkbndcekklmaaGreatDoor
open Go Go.Sx Go.Rt Go.Proofs
end Go.Proofs.YtkmkbndcekklmaaGreatDoor
set_option maxRecDepth 10000
namespace Go.Proofs.YtkmkbndcekklmaaGreatDoor
open Go Go.Sx Go.Rt Go.Proofs Tryz
open N0 in
theorem VS (s : List Fml) (H : Heap) (n : Nat) : Ret prog 66 [Zi s] H n (.int .i64 (Zv s)) H n := by
 refine Ret.fin ?_
 refine fw func66 ntmps66 results66 ?_
 refine rg zs [1] ?_
 refine Za fun K1 hK1 => ?_
 refine rk zs [1, 8] fun K V => ?_
 refine ck func100 ((by apply Wq <;> first | assumption | omega)) ?_
 refine kas ?_
 refine Zb ?_ ?_ <;> intro hb
 ·have hres : (28 : Int) = Zv s := by
    have : bout s.length 1 8 = true := osb
    simp [Zv, this]
  refine rg zs [2] ?_
  refine ar ?_
  refine ⟨_, rfl, ?_, Frz.eq (by rw [hres]) trivial⟩
  intro k hk; have h0 : k ≠ n := om
  simp [Heap.put, h0]; done
 have hb8 : bout s.length 1 8 = false := osb
 have hlen := Qb hb8
 refine kay ?_
 refine Za fun K2 hK2 => ?_
 refine rg zs [1, 10, 11, 12] ?_
 refine kbM ?_
 refine Zp (fun T' H' n' => ∃ i : Nat, i ≤ s.length ∧ T' = tl [(1, .loc n 0 0 0 []), (10, .sl 3 (s.map YM)), (11, .int .i64 s.length), (12, .int .i64 i)] ∧ n + 1 ≤ n' ∧ H' n = some (.arr 0 1 [Zi s]) ∧ (∀ k, k < n → H' k = H k) ∧ WW s (s.drop i) i = WW s s 0) (fun T' _ _ => s.length - iv (T' 12)) ?_ ?_
 ·refine ⟨0, Nat.zero_le _, by rw [List.length_map]; rfl, om, ?_, ?_, rfl⟩
  ·simp [Heap.put, Zi]
  ·intro k hk; have h0 : k ≠ n := om
   simp [Heap.put, h0]
 rintro T1 H1 n1 ⟨i, hi, rfl, hn, hHn, hH, hix⟩
 refine rg zs [1, 10, 11, 12, 13] ?_
 refine Za fun K3 hK3 => ?_
 refine Zb ?_ ?_ <;> intro hb
 ·have hlt : i < s.length := osb
  rw [X4 s i hlt, Ki] at hix
  have hn1 : (n = n1) = False := oz
  simp only [Zi] at hHn
  refine kba ?_
  refine bk fun K4 hK4 => ?_
  have hnth : nth (s.map YM) i = YM (s.getD i default) := Zx YM s i hlt
  refine Zf zs [1, 3, 4, 10, 11, 12] fun K V => ?_
  try simp only [go_sem, seval, Int.toNat_natCast, hnth]
  refine kad ?_
  refine Zf zs [1, 10, 11, 12, 38] fun K V => ?_
  refine kaB ?_
  refine Zo func101 rfl rfl rfl ((c_cell_named (s.getD i default).name _ _)) ?_
  refine kaB ?_
  refine Yz func102 rfl rfl rfl (fun _ => (Ur s (s.getD i default).name om _ _)) ?_
  refine kaB ?_
  refine Yz func100 rfl rfl rfl (fun _ => (Wq (s.getD i default).max 1 16 _ _)) ?_
  refine kaB ?_
  refine Yz func100 rfl rfl rfl (fun _ => (Wq (s.getD i default).ttl 0 1099511627776 _ _)) ?_
  try simp only [go_sem, seval, Int.toNat_natCast, hn1, hHn]
  refine kad ?_
  refine Zb ?_ ?_ <;> intro hb
  ·have hbad : Uk s (s.getD i default) i = true := by
     simp only [Uk]; cases h1 : Y6 (s.getD i default).name <;> cases h2 : bout (s.getD i default).max 1 16 <;> simp_all
   have hres : (28 : Int) = Zv s := by rw [hbad] at hix; simp [Zv, hb8, ← hix]
   refine rg zs [2] ?_
   refine ar ?_
   refine ⟨_, rfl, ?_, Frz.eq (by rw [hres]) trivial⟩
   intro k hk; have h0 : k ≠ n := om
   have h1 : k ≠ n1 := om; simp [Heap.put, h0, h1, hH k hk]
  have hbad : Uk s (s.getD i default) i = false := by
    simp only [Uk]; cases h1 : Y6 (s.getD i default).name <;> cases h2 : bout (s.getD i default).max 1 16 <;> simp_all
  rw [hbad, Bool.false_or] at hix
  refine kb3 ?_
  refine rg1 zs [1, 10, 11, 12] ?_
  exact kbz
 have hge : i = s.length := by simp at hb; omega
 have hres : (0 : Int) = Zv s := by rw [hge] at hix; simp [WW] at hix; simp [Zv, hb8, hix]
 refine ax ?_
 apply hK2
 refine kal ?_
 exact kcB
end Go.Proofs.YtkmkbndcekklmaaGreatDoor
set_option maxRecDepth 10000
namespace Go.Proofs.YtkmkbndcekklmaaGreatDoor
open Go Go.Sx Go.Rt Go.Proofs
end Go.Proofs.YtkmkbndcekklmaaGreatDoor
set_option maxRecDepth 10000
namespace Go.Proofs.YtkmkbndcekklmaaGreatDoor
open Go Go.Sx Go.Rt Go.Proofs Tryz
theorem NJh0.eqs {P Q : Prop} (g : Imp P Q := by (try simp only [go_sem, seval, List.length_map]); exact Pm) : Imp P Q := g
open NJh0 NY in
theorem VO (b : List UInt8) (p : Nat) (H : Heap) (n : Nat) : Ret prog 130 [bys b, .int .i64 p] H n (.bool (decide (b.length < p))) H n := by
 refine fw func130 ntmps130 results130 ?_
 refine kb1 ?_
 refine kag ?_
 have h0 : ¬ ((p : Int) < 0) := om
 simp [h0]
def ruAV (x : Nat × Nat × Int) : AV := .tup [.int .u64 x.1, .int .i64 x.2.1, .int .i64 x.2.2]
theorem NJh1.eqs {P Q : Prop} (g : Imp P Q := by (try simp only [go_sem, seval, List.length_map]); exact Pm) : Imp P Q := g
set_option maxHeartbeats 1600000 in
open NJh1 NY in
theorem Qf (b : List UInt8) (p : Nat) (hb : b.length ≤ 1099511627776) (hp : p ≤ 1099511627776) (H : Heap) (n : Nat) : Ret prog 93 [bys b, .int .i64 p] H n (ruAV (ruB b p)) H n := by
 refine fw func93 ntmps93 results93 ?_
 refine kb1 ?_
 refine Za fun K1 hK1 => ?_
 refine rc zs [0, 1, 12] func130 ((VO b p _ _)) ?_
 refine Zb ?_ ?_ <;> intro hb
 ·have h1 : b.length < p := of_decide_eq_true hb
  have hres : ruB b p = (0, 0, 1) := by unfold ruB; rw [if_pos h1]
  exact kaS
 have h1 : ¬ b.length < p := of_decide_eq_false hb
 have hru : ruB b p = ruL b p 10 0 := by unfold ruB; rw [if_neg h1]
 refine kay ?_
 refine rg zs [0, 1, 7] ?_
 refine rg zs [0, 1, 7, 8] ?_
 refine kbM ?_
 refine Zp (fun T' H' n' => ∃ f v : Nat, f ≤ 9 ∧ v < 2 ^ (7 * (9 - f)) ∧ T' = tl [(0, bys b), (1, .int .i64 p), (7, .int .u64 v), (8, .int .i64 (9 - f : Nat))] ∧ H' = H ∧ n' = n ∧ ruL b p (f + 1) v = ruB b p) (fun T' _ _ => 9 - iv (T' 8)) ?_ ?_
 ·exact ⟨9, 0, om, osi, rfl, rfl, rfl, hru.symm⟩
 rintro T1 H1 n1 ⟨f, v, hf, hv, rfl, rfl, rfl, hix⟩
 refine bk fun K2 hK2 => ?_
 refine Za fun K3 hK3 => ?_
 have e1 : IntKind.i64.wrap ((p : Int) + ((9 - f : Nat) : Int)) = ((p + (9 - f) : Nat) : Int) := by rw [w64 om om]; omega
 unfold ruL at hix
 refine Zf zs [0, 1, 7, 8, 20] fun K V => ?_
 try simp only [go_sem, seval, List.length_map, e1]
 refine kad ?_
 refine Zb ?_ ?_ <;> intro hb
 ·have hlt : b.length ≤ p + (9 - f) := ott
  have hres : ruB b p = (0, 0, 10) := by rw [← hix, if_pos hlt]
  exact kaS
 have hlt : ¬ b.length ≤ p + (9 - f) := otf
 rw [if_neg hlt] at hix
 have hnth : nth (b.map Zd) (p + (9 - f)) = Zd (b.getD (p + (9 - f)) 0) := Zx Zd b _ om
 generalize b.getD (p + (9 - f)) 0 = c at *
 have hcl := c.toNat_lt
 refine kba ?_
 refine Zf zs [0, 1, 7, 8, 9] fun K V => ?_
 try simp only [go_sem, seval, List.length_map, e1, hnth, Int.toNat_natCast, Zd]
 refine kad ?_
 refine Za fun K4 hK4 => ?_
 refine rg zs [0, 1, 7, 8, 9, 32] ?_
 refine Zb ?_ ?_ <;> intro hb
 ·have h3 : (9 - f = 9) ∧ 1 < c.toNat := by cases h : decide (((9 - f : Nat) : Int) = 9) <;> simp_all <;> omega
  have hres : ruB b p = (0, 0, 13) := by rw [← hix, if_pos h3]
  exact kaS
 have h3 : ¬ ((9 - f = 9) ∧ 1 < c.toNat) := by rintro ⟨h4, h5⟩; simp [h4] at hb; omega
 rw [if_neg h3] at hix
 refine kb3 ?_
 have e2 : IntKind.i64.wrap (7 * ((9 - f : Nat) : Int)) = ((7 * (9 - f) : Nat) : Int) := by rw [w64 om om]; omega
 have e3 : IntKind.u64.wrap ((c.toNat % 128 : Nat) : Int) = ((c.toNat % 128 : Nat) : Int) := by rw [IntKind.wrap_u64]; omega
 have hm : c.toNat % 128 * 2 ^ (7 * (9 - f)) ≤ 127 * 2 ^ 56 ∨ c.toNat % 128 * 2 ^ (7 * (9 - f)) ≤ 1 * 2 ^ 63 := by
   exact kbL
 have hv2 : v < 9223372036854775808 := Nat.lt_of_lt_of_le hv (Nat.pow_le_pow_right om (show 7 * (9 - f) ≤ 63 by omega))
 have e4 : IntKind.u64.wrap (((c.toNat % 128 : Nat) : Int) * 2 ^ (min (7 * (9 - f)) 64)) = ((c.toNat % 128 * 2 ^ (7 * (9 - f)) : Nat) : Int) := by
   rw [show min (7 * (9 - f)) 64 = 7 * (9 - f) by omega, IntKind.wrap_u64]
   have : ((c.toNat % 128 : Nat) : Int) * 2 ^ (7 * (9 - f)) = ((c.toNat % 128 * 2 ^ (7 * (9 - f)) : Nat) : Int) := osi
   rw [this]; omega
 have e5 := or64 (x := v) (m := c.toNat % 128) (k := 7 * (9 - f)) hv om
 refine Zf zs [0, 1, 7, 8, 9] fun K V => ?_
 try simp only [go_sem, seval, List.length_map, and127, e2, e3, e4, e5, Int.toNat_natCast]
 refine kad ?_
 refine rg zs [0, 1, 7, 8, 9, 42] ?_
 refine Zb ?_ ?_ <;> intro hb
 ·have h4 : c.toNat < 128 := ott
  rw [if_pos h4] at hix
  refine Za fun K5 hK5 => ?_
  refine rg zs [1, 7, 8, 48] ?_
  refine Zb ?_ ?_ <;> intro hb
  ·have h5 : c.toNat = 0 ∧ 0 < 9 - f := by cases h : decide ((c.toNat : Int) = 0) <;> simp_all <;> omega
   have hres : ruB b p = (0, 0, 11) := by rw [← hix, if_pos h5]
   exact kaS
  have h5 : ¬ (c.toNat = 0 ∧ 0 < 9 - f) := by rintro ⟨h6, h7⟩; simp [h6] at hb; omega
  rw [if_neg h5] at hix
  have e6 : IntKind.i64.wrap (((p + (9 - f) : Nat) : Int) + 1) = ((p + (9 - f) + 1 : Nat) : Int) := by rw [w64 om om]; omega
  refine ak ?_
  apply hK5
  refine Zf zs [4, 5, 6] fun K V => ?_
  try simp only [go_sem, seval, List.length_map, e1, e6]
  refine kad ?_
  refine ar ?_
  rw [← hix]; rfl
 have h4 : ¬ c.toNat < 128 := otf
 rw [if_neg h4] at hix
 have hf0 : 0 < f := Nat.pos_of_ne_zero fun h0 => h3 ⟨om, om⟩
 obtain ⟨g, rfl⟩ : ∃ g, f = g + 1 := ⟨f - 1, om⟩
 have e8 : 9 - (g + 1) = 8 - g := om
 rw [e8] at hix hv
 have e7 : IntKind.i64.wrap (((8 - g : Nat) : Int) + 1) = ((9 - g : Nat) : Int) := by rw [w64 om om]; omega
 refine kaQ ?_
 refine ZG zs [0, 1, 7, 8] fun K V => ?_
 try simp only [go_sem, seval, List.length_map, e7]
 refine kad ?_
 refine ns ?_
 refine ⟨⟨g, v + c.toNat % 128 * 2 ^ (7 * (8 - g)), om, ?_, rfl, hix⟩, by simp [iv]; omega⟩
 have h6 : 7 * (9 - g) = 7 * (8 - g) + 7 := om
 rw [h6, Nat.pow_add]
 exact kcv
theorem NJh2.eqs {P Q : Prop} (g : Imp P Q := by (try simp only [go_sem, seval, List.length_map, List.length_cons]); exact Pm) : Imp P Q := g
theorem NJh2.sd {P : Prop} (g : P := by first | omega | (simp; omega) | fail) : P := g
open NJh2 NZ in
theorem M9 (x : UInt8) (b : List UInt8) (hb9 : b.length ≤ 1099511627776) (H : Heap) (n : Nat) : Zn prog 53 [bys (x :: b)] H n (OAns H n (bys (x :: b))) := by
 refine fw func53 ntmps53 results53 ?_
 refine kcu ?_
 refine Za fun K1 hK1 => ?_
 refine rg zs [0, 4] ?_
 refine Zb ?_ ?_ <;> intro hb
 ·exact kcQ
 refine kay ?_
 refine rg zo [2] ?_
 refine ar ?_
 refine OAns.one (.osl (els := (x :: b).map Zd) (by simp [Heap.put]; rfl) osi (by rw [List.take_of_length_le osi]; exact PK _ (UE _))) om (fun k hk => ?_) om
 have h0 : k ≠ n := om
 simp [Heap.put, h0]
open N0 in
theorem Na (H : Heap) (n : Nat) : Zn prog 53 [bys []] H n (OAns H n (bys [])) := by
 refine fw func53 ntmps53 results53 ?_
 refine awp_raw_sl 0 rfl fun ad cap => ?_
 simp only [go_sem]
 refine rg zs [0] ?_
 refine Za fun K1 hK1 => ?_
 refine rg zs [0, 4] ?_
 refine Zb ?_ ?_ <;> intro hb
 ·refine rg zs [2] ?_
  refine ar ?_
  exact OAns.emp .nilsl (fun k hk => rfl) (Nat.le_refl _)
  all_goals (refine OAns.one (.osl (els := []) (by simp [Heap.put]; first | rfl | done) (Nat.le_refl _) .nil) om (fun k hk => ?_) om; have h0 : k ≠ n := om; simp [Heap.put, h0])
 refine ak ?_
 apply hK1
 refine N8 0 (.sl 1 []) (Wk.raw_sl ad cap 1) ?_
 simp only [go_sem]
 refine Zf zo [2] fun K V => ?_
 try simp only [go_sem, seval, List.map_nil, List.length_nil]
 repeat refine peel ?_
 apply V; clear V K
 refine ar ?_
 all_goals (refine OAns.one (.osl (els := []) (by simp [Heap.put]; first | rfl | done) (Nat.le_refl _) .nil) om (fun k hk => ?_) om; have h0 : k ≠ n := om; simp [Heap.put, h0])
theorem YT (b : List UInt8) (hb : b.length ≤ 1099511627776) (H : Heap) (n : Nat) : Zn prog 53 [bys b] H n (OAns H n (bys b)) := by
 cases b with
 | nil => exact Na H n
 | cons x b => exact M9 x b (by simp at hb; omega) H n
theorem c_bytes_Clone (b : List UInt8) (hb : b.length ≤ 1099511627776) (H : Heap) (n : Nat) : Ret prog 53 [bys b] H n (bys b) H n := OAns.fin (YT b hb H n)
def rbAV (x : List UInt8 × Nat × Int) : AV := .tup [bys x.1, .int .i64 x.2.1, .int .i64 x.2.2]
theorem NJh3.eqs {P Q : Prop} (g : Imp P Q := by (try simp only [go_sem, seval, List.length_map, ruAV, ZZ, hum, List.length_drop, List.length_take]); exact Pm) : Imp P Q := g
set_option maxHeartbeats 1600000 in
open NJh3 NY in
theorem KX (b : List UInt8) (p most : Nat) (hb9 : b.length ≤ 1099511627776) (hp : p ≤ 1099511627776) (hm : most ≤ 1099511627776) (H : Heap) (n : Nat) : Zn prog 94 [bys b, .int .i64 p, .int .i64 most] H n (OAns H n (rbAV (rbB b p most))) := by
 obtain ⟨hu1, hu2, hu3⟩ := ruB_lt b p
 have hum : u64 (most : Int) = most := X8 _ om
 have hs := hum
 refine fw func94 ntmps94 results94 ?_
 refine rg zs [0, 1, 2] ?_
 refine Za fun K1 hK1 => ?_
 refine rc zs [0, 1, 2, 18] func130 ((VO b p _ _)) ?_
 refine Zb ?_ ?_ <;> intro hb
 ·have h1 : b.length < p := by have h0 : ¬ ((most : Int) < 0) := om; simp [h0] at hb; exact hb
  have hres : rbB b p most = ([], 0, 1) := by unfold rbB; rw [if_pos h1]
  exact kaV
 have h1 : ¬ b.length < p := by have h0 : ¬ ((most : Int) < 0) := om; simp [h0] at hb; omega
 refine kay ?_
 refine rc zs [0, 1, 2, 9, 10] func93 ((Qf b p hb9 hp _ _)) ?_
 refine bk fun K2 hK2 => ?_
 refine rg zs [0, 1, 2, 9, 10, 26] ?_
 refine Zb ?_ ?_ <;> intro hb
 ·have h2 : (ruB b p).2.2 ≠ 0 := osb
  have hres : rbB b p most = ([], 0, (ruB b p).2.2) := by unfold rbB; rw [if_neg h1, if_pos h2]
  exact kaV
 have h2 : (ruB b p).2.2 = 0 := osb
 have hu4 := hu2 h2
 refine rg zs [0, 1, 9, 30] ?_
 refine Zb ?_ ?_ <;> intro hb
 ·have h3 : most < (ruB b p).1 := ott
  have hres : rbB b p most = ([], 0, 13) := by unfold rbB; rw [if_neg h1, if_neg (by simp [h2]), if_pos h3]
  exact kaV
 have h3 : ¬ most < (ruB b p).1 := otf
 have e1 : IntKind.i64.wrap ((b.length : Int) - ((ruB b p).2.1 : Int)) = ((b.length - (ruB b p).2.1 : Nat) : Int) := by rw [w64 om om]; omega
 have e2 : u64 ((b.length - (ruB b p).2.1 : Nat) : Int) = b.length - (ruB b p).2.1 := X8 _ om
 refine Zf zs [0, 1, 9, 35] fun K V => ?_
 try simp only [go_sem, seval, List.length_map, ruAV, ZZ, hum, List.length_drop, List.length_take, e1, e2]
 refine kad ?_
 refine Zb ?_ ?_ <;> intro hb
 ·have h4 : b.length - (ruB b p).2.1 < (ruB b p).1 := ott
  have hres : rbB b p most = ([], 0, 10) := by unfold rbB; rw [if_neg h1, if_neg (by simp [h2]), if_neg h3, if_pos h4]
  exact kaV
 have h4 : ¬ b.length - (ruB b p).2.1 < (ruB b p).1 := otf
 have hres : rbB b p most = ((b.drop (ruB b p).2.1).take (ruB b p).1, (ruB b p).2.1 + (ruB b p).1, 0) := by unfold rbB; rw [if_neg h1, if_neg (by simp [h2]), if_neg h3, if_neg h4]
 have e3 : IntKind.i64.wrap ((ruB b p).1 : Int) = ((ruB b p).1 : Int) := w64 om om
 have e4 : IntKind.i64.wrap (((ruB b p).2.1 : Int) + ((ruB b p).1 : Int)) = (((ruB b p).2.1 + (ruB b p).1 : Nat) : Int) := by rw [w64 om om]; omega
 have e5 : List.drop (ruB b p).2.1 (List.take ((ruB b p).2.1 + (ruB b p).1) (b.map Zd)) = ((b.drop (ruB b p).2.1).take (ruB b p).1).map Zd := by rw [List.take_add, List.drop_append_of_le_length oz, List.drop_take_self, List.nil_append, ← List.map_drop, ← List.map_take]
 refine kaQ ?_
 refine Zf zs [0, 1, 11] fun K V => ?_
 refine kb8 ?_
 refine kad ?_
 refine Zf zs [6, 7, 8] fun K V => ?_
 try simp only [go_sem, seval, List.length_map, ruAV, ZZ, hum, List.length_drop, List.length_take, e5, hs, Option.getD_some, Int.toNat_natCast]
 repeat (first | (refine And.intro ?_ ?_; · first | exact ⟨om, om, om, fun m h => h.elim⟩) | refine peel ?_)
 refine cK func53 ((YT ((b.drop (ruB b p).2.1).take (ruB b p).1) oz _ _)) ?_ ?_
 ·intro p H' n' hc; exact hc.pan.elim
 intro rr H1 n1 hc
 obtain ⟨ks, hm⟩ := hc.got
 have hs := hm.own.strip true
 try simp only [go_sem, seval, List.length_map, ruAV, ZZ, hum, List.length_drop, List.length_take, e5, hs, Option.getD_some, Int.toNat_natCast]
 refine kad ?_
 refine ar ?_
 rw [hres]
 exact ⟨_, ks, rfl, hm.own.tupII, hm.nd, hm.lo, hm.low, hm.nn⟩
end Go.Proofs.YtkmkbndcekklmaaGreatDoor
set_option maxRecDepth 10000
namespace Go.Proofs.YtkmkbndcekklmaaGreatDoor
open Go Go.Sx Go.Rt Go.Proofs
end Go.Proofs.YtkmkbndcekklmaaGreatDoor
set_option maxRecDepth 10000
namespace Go.Proofs.YtkmkbndcekklmaaGreatDoor
open Go Go.Sx Go.Rt Go.Proofs Tryz
open N0 in
theorem JA (b : UInt8) (H : Heap) (n : Nat) : Ret prog 113 [Zd b] H n (.bool (We b)) H n := by
 refine fw func113 ntmps113 results113 ?_
 refine kcu ?_
 refine kal ?_
 exact kbm
open N0 in
theorem Uo (b : UInt8) (H : Heap) (n : Nat) : Ret prog 115 [Zd b] H n (.bool (Zw b)) H n := by
 refine fw func115 ntmps115 results115 ?_
 refine kcu ?_
 refine kal ?_
 exact kbo
open N0 in
theorem c_query_blank (b : UInt8) (H : Heap) (n : Nat) : Ret prog 112 [Zd b] H n (.bool (b.toNat == 32)) H n := by
 refine fw func112 ntmps112 results112 ?_
 refine kcu ?_
 refine kal ?_
 simp
 rw [Bool.eq_iff_iff, beq_iff_eq, beq_iff_eq]; omega
open N0 in
theorem c_query_name (b : UInt8) (H : Heap) (n : Nat) : Ret prog 114 [Zd b] H n (.bool (Y3 b)) H n := by
 refine fw func114 ntmps114 results114 ?_
 refine kcu ?_
 refine rk zs [2] fun K V => ?_
 refine ck func113 ((JA b _ _)) ?_
 refine cg func115 (fun _ => (Uo b _ _)) ?_
 refine kas ?_
 refine ar ?_
 unfold Y3; have i : ((b.toNat : Int) == 95) = (b.toNat == 95) := obq
 simp_all
open N0 in
theorem NL (s : List UInt8) (b : UInt8) (H : Heap) (n : Nat) : Ret prog 158 [.str s, Zd b] H n (.int .i64 (idxB s b)) H n := by
 refine fw func158 ntmps158 results158 ?_
 refine kb1 ?_
 refine rk zs [4] fun K V => ?_
 refine .inr (ext_indexByte func169 rfl rfl odc rfl s b ?_)
 refine nz ?_
 refine kas ?_
 refine ar ?_
 trivial
open N0 in
theorem Js (s : List UInt8) (b : UInt8) (H : Heap) (n : Nat) : Ret prog 152 [.str s, Zd b] H n (.int .i64 (idxB s b)) H n := by
 refine fw func152 ntmps152 results152 ?_
 refine kb1 ?_
 refine rc zs [4] func158 ((NL s b _ _)) ?_
 refine ar ?_
 trivial
open N0 in
theorem Ub (b : UInt8) (H : Heap) (n : Nat) : Ret prog 140 [Zd b] H n (.int .i64 (hexI b)) H n := by
 refine fw func140 ntmps140 results140 ?_
 refine kcu ?_
 refine rc zs [2] func152 ((Js hexS b _ _)) ?_
 refine ar ?_
 rw [idxB_hex]
def UJ (p : Nat) : AV := .iface 150 (.agg [.int .i64 p])
open N0 in
theorem Ya (p : Nat) (H : Heap) (n : Nat) : Zn prog 80 [.int .i64 p] H n fun res H' n' => H' = H ∧ n' = n ∧ res = .pan (UJ p) := by
 refine fw func80 ntmps80 results80 ?_
 refine awp_pan1 zs 3 rfl trivial ?_
 refine nz ?_
 refine ns ?_
 rfl
def wdAV (w : Wd) : AV := .agg [.int .i64 w.kind, .int .i64 w.pos, .str w.text, .int .i64 w.num, bys w.str]
def qdO (fs : List Fml) (t : List UInt8) (s : Qst) (ko ver : Nat) : AObj := .arr 0 10 [.agg [Zi fs, .str t, .int .i64 s.far, wdAV s.nxt, .osl ko ver 0 s.out.length, .int .i64 s.deep]]
theorem Q8 {so : UInt8 → Bool} {t : List UInt8} {i : Nat} (h : i < t.length) (hb : so (t.getD i 0) = true) : ZI so t (i + 1) = ZI so t i := by
 unfold ZI
 rw [List.drop_eq_getElem_cons h, List.takeWhile_cons]
 have e : t.getD i 0 = t[i] := by simp [List.getD, h]
 rw [e] at hb
 rw [if_pos hb, List.length_cons]; omega
theorem UL {so : UInt8 → Bool} {t : List UInt8} {i : Nat} (h : i < t.length) (hb : so (t.getD i 0) = false) : ZI so t i = i := by
 unfold ZI
 rw [List.drop_eq_getElem_cons h, List.takeWhile_cons]
 have e : t.getD i 0 = t[i] := by simp [List.getD, h]
 rw [e] at hb
 rw [if_neg (by rw [hb]; simp)]; rfl
theorem UM {so : UInt8 → Bool} {t : List UInt8} {i : Nat} (h : t.length ≤ i) : ZI so t i = i := by
 unfold ZI
 rw [List.drop_eq_nil_of_le h]; rfl
theorem NQ40.eqs {P Q : Prop} (g : Imp P Q := by (try simp only [go_sem, seval, hR1, hszs, wdAV, hszb]); exact Pm) : Imp P Q := g
open NQ40 NY in
theorem Um (fs : List Fml) (t : List UInt8) (s : Qst) (kr ko ver : Nat) (ht : t.length ≤ 512) (p : Nat) (hp : p ≤ t.length) (so : UInt8 → Bool) (f : FuncId) {fn : Func} (hf : (prog).funcs[f]? = some fn) (hbd : fn.body.isSome = true) (hn : (fn.name == "runtime.NumGoroutine") = false)
   (H : Heap) (n : Nat) (hso : ∀ b H n, Ret prog f [Zd b] H n (.bool (so b)) H n) (hR : H kr = some (qdO fs t s ko ver)) :
   Ret prog 111 [.loc kr 0 0 0 [], .int .i64 p, .fn (.func f) [] []] H n (.int .i64 (ZI so t p)) H n := by
 have hR1 := hR
 unfold qdO at hR1
 have w1 : ∀ {i : Nat}, i < t.length → IntKind.i64.wrap ((i : Int) + 1) = ((i + 1 : Nat) : Int) := fun h => by rw [w64 om om]; omega
 have hszs : (Zi fs).sz = 1 := rfl
 have hszb : ∀ b, (bys b).sz = 1 := fun _ => rfl
 refine fw func111 ntmps111 results111 ?_
 refine rg zs [0, 1, 2] ?_
 refine bk fun K1 hK1 => ?_
 refine Zp (fun T' H' n' => ∃ i : Nat, i ≤ t.length ∧ T' = tl [(0, .loc kr 0 0 0 []), (1, .int .i64 i), (2, .fn (.func f) [] [])] ∧ H' = H ∧ n' = n ∧ ZI so t i = ZI so t p) (fun T' _ _ => t.length - iv (T' 1)) ?_ ?_
 ·exact ⟨p, hp, rfl, rfl, rfl, rfl⟩
 rintro T1 H1 n1 ⟨i, hi, rfl, rfl, rfl, hix⟩
 refine Za fun K2 hK2 => ?_
 refine rk zs [0, 1, 2, 23] fun K V => ?_
 refine Yz (args' := [Zd (t.getD i 0)]) hf hbd hn rfl (fun _ => hso (t.getD i 0) _ _) ?_
 refine nz ?_
 apply V; clear V K
 refine Zb ?_ ?_ <;> intro hb
 ·have hb1 : (bif decide ((i : Int) < (t.length : Int)) then so (t.getD i 0) else false) = true := hb
  have hlt : i < t.length := by rcases Nat.lt_or_ge i t.length with h | h; exact h; rw [decide_eq_false om] at hb1; cases hb1
  have hso1 : so (t.getD i 0) = true := by rw [decide_eq_true om] at hb1; exact hb1
  have hnext : ZI so t (i + 1) = ZI so t p := by rw [Q8 hlt hso1, hix]
  refine ak ?_
  apply hK2
  refine Zy ?_
  refine rg1 zs [0, 1, 2] ?_
  exact ⟨⟨i + 1, om, by rw [w1 om], hnext⟩, by rw [w1 om]; simp; omega⟩
 have hb1 : (bif decide ((i : Int) < (t.length : Int)) then so (t.getD i 0) else false) = false := hb
 have hres : (i : Int) = ((ZI so t p : Nat) : Int) := by rw [← hix]; rcases Nat.lt_or_ge i t.length with h | h; (rw [decide_eq_true om] at hb1; rw [UL h hb1]); rw [UM h]
 refine ax ?_
 apply hK1
 refine rg zs [6] ?_
 refine ar ?_
 rw [hres]
theorem NQ50.eqs {P Q : Prop} (g : Imp P Q := by (try simp only [go_sem, seval, hR1, hszs, wdAV, hszb]); exact Pm) : Imp P Q := g
open NQ50 NY in
theorem Y8 (fs : List Fml) (t : List UInt8) (s : Qst) (kr ko ver : Nat) (w : List UInt8) (H : Heap) (n : Nat) (hR : H kr = some (qdO fs t s ko ver)) :
   Ret prog 120 [.loc kr 0 0 0 [], .str w] H n (.bool (isF s w)) H n := by
 have hR1 := hR
 unfold qdO at hR1
 have hszs : (Zi fs).sz = 1 := rfl
 have hszb : ∀ b, (bys b).sz = 1 := fun _ => rfl
 refine fw func120 ntmps120 results120 ?_
 refine rg zs [0, 1] ?_
 refine rg zs [4] ?_
 refine ar ?_
 unfold isF; have i1 : ((s.nxt.kind : Int) == 1) = (s.nxt.kind == 1) := obq
 have i2 : ((s.nxt.kind : Int) == 4) = (s.nxt.kind == 4) := obq
 simp_all
theorem Mj (w : Wd) (n : Nat) : (wdAV w).kl n := ⟨trivial, trivial, trivial, trivial, Z0 _ _, trivial⟩
theorem kl_schQ (s : List Fml) (n : Nat) : (Zi s).kl n := by
 unfold Zi
 exact ⟨XQ YM (fun x => ⟨trivial, trivial, trivial, trivial⟩) s, trivial⟩
def outO (s : Qst) (ver : Nat) : AObj := .arr ver 5 (s.out.map wdAV)
def qst (fs : List Fml) (t : List UInt8) (kr ko : Nat) (s : Qst) (ver : Nat) (H : Heap) : Heap := (H.put ko (some (outO s ver))).put kr (some (qdO fs t s ko ver))
def QdK (fs : List Fml) (t : List UInt8) (kr ko : Nat) (H : Heap) (n : Nat) (r : Except Nat (AV × Qst)) (res : ARes) (H' : Heap) (n' : Nat) : Prop :=
 match r with
 | .ok x => ∃ ver, res = .val x.1 ∧ H' = qst fs t kr ko x.2 ver H ∧ n' = n
 | .error p => res = .pan (UJ p) ∧ n ≤ n' ∧ ∀ k, k < n → k ≠ kr → k ≠ ko → H' k = H k
theorem QdK.val {fs : List Fml} {t : List UInt8} {kr ko : Nat} {H : Heap} {n : Nat} {r : Except Nat (AV × Qst)} {v : AV} {H' : Heap} {n' : Nat} (h : QdK fs t kr ko H n r (.val v) H' n') : ∃ s ver, r = .ok (v, s) ∧ H' = qst fs t kr ko s ver H ∧ n' = n := by
 cases r with
 | ok x => obtain ⟨ver, h1, h2, h3⟩ := h; cases h1; exact ⟨x.2, ver, rfl, h2, h3⟩
 | error p => cases h.1
theorem QdK.pan {fs : List Fml} {t : List UInt8} {kr ko : Nat} {H : Heap} {n : Nat} {r : Except Nat (AV × Qst)} {v : AV} {H' : Heap} {n' : Nat} (h : QdK fs t kr ko H n r (.pan v) H' n') : ∃ p, r = .error p ∧ v = UJ p ∧ n ≤ n' ∧ ∀ k, k < n → k ≠ kr → k ≠ ko → H' k = H k := by
 cases r with
 | ok x => obtain ⟨ver, h1, _⟩ := h; cases h1
 | error p => obtain ⟨h1, h2, h3⟩ := h; cases h1; exact ⟨p, rfl, rfl, h2, h3⟩
def qdAV (fs : List Fml) (t : List UInt8) (s : Qst) (ko ver : Nat) : AV := .agg [Zi fs, .str t, .int .i64 s.far, wdAV s.nxt, .osl ko ver 0 s.out.length, .int .i64 s.deep]
theorem Kg (fs : List Fml) (t : List UInt8) (s : Qst) {ko ver n : Nat} (hk : ko < n) : (qdAV fs t s ko ver).kl n := ⟨kl_schQ fs n, trivial, trivial, Mj _ n, hk, trivial, trivial⟩
structure QdH (fs : List Fml) (t : List UInt8) (kr ko : Nat) (s : Qst) (ver : Nat) (H : Heap) (n : Nat) : Prop where
 lr : kr < n
 lo : ko < n
 ne : kr ≠ ko
 r : H kr = some (qdO fs t s ko ver)
 o : H ko = some (outO s ver)
section
variable {fs : List Fml} {t : List UInt8} {kr ko : Nat} {s s' : Qst} {ver ver' : Nat} {H H' : Heap} {n n' : Nat}
theorem QdH.on (h : QdH fs t kr ko s ver H n) (h1 : H' kr = H kr) (h2 : H' ko = H ko) (hn : n ≤ n') : QdH fs t kr ko s ver H' n' :=
 ⟨Nat.lt_of_lt_of_le h.lr hn, Nat.lt_of_lt_of_le h.lo hn, h.ne, h1.trans h.r, h2.trans h.o⟩
theorem QdH.low (h : QdH fs t kr ko s ver H n) (hl : ∀ k, k < n → H' k = H k) (hn : n ≤ n') : QdH fs t kr ko s ver H' n' := h.on (hl _ h.lr) (hl _ h.lo) hn
theorem QdH.turn (h : QdH fs t kr ko s ver H n) (s' : Qst) (ver' : Nat) : QdH fs t kr ko s' ver' (qst fs t kr ko s' ver' H) n :=
 ⟨h.lr, h.lo, h.ne, Pk _ _ _, by unfold qst; rw [Pi _ _ h.ne.symm, Pk]⟩
theorem QdK.get {r : Except Nat (AV × Qst)} {v : AV} {s0 : Qst} {ver0 : Nat} (hk : QdK fs t kr ko H n r (.val v) H' n') (h : QdH fs t kr ko s0 ver0 H n) : ∃ s ver, r = .ok (v, s) ∧ QdH fs t kr ko s ver H' n ∧ n' = n ∧ ∀ k, k ≠ kr → k ≠ ko → H' k = H k := by
 obtain ⟨s, ver, h1, rfl, rfl⟩ := hk.val
 exact ⟨s, ver, h1, h.turn s ver, rfl, fun k e1 e2 => by unfold qst; rw [Pi _ _ e1, Pi _ _ e2]⟩
def QdE (fs : List Fml) (t : List UInt8) (kr ko : Nat) (H : Heap) (n : Nat) (r : Except Nat (AV × Qst)) (res : ARes) (H1 : Heap) (n' : Nat) : Prop :=
 (∃ v v' s ver a, res = .val v ∧ r = .ok (v', s) ∧ H1 kr = some (.arr 0 10 [a]) ∧ Frz H1 n a (qdAV fs t s ko ver) ∧ H1 ko = some (outO s ver) ∧ (∀ k, k < n → k ≠ kr → k ≠ ko → H1 k = H k) ∧ Frz H1 n v v') ∨ (∃ p, r = .error p ∧ res = .pan (UJ p) ∧ n ≤ n' ∧ ∀ k, k < n → k ≠ kr → k ≠ ko → H1 k = H k)
theorem QdE.err {r : Except Nat (AV × Qst)} {p : Nat} (hr : r = .error p) (hn : n ≤ n') (hl : ∀ k, k < n → k ≠ kr → k ≠ ko → H' k = H k) : QdE fs t kr ko H n r (.pan (UJ p)) H' n' := .inr ⟨p, hr, rfl, hn, hl⟩
theorem QdE.val {r : Except Nat (AV × Qst)} {v v' a : AV} {s : Qst} {ver : Nat} (hr : r = .ok (v', s)) (h1 : H' kr = some (.arr 0 10 [a])) (h2 : Frz H' n a (qdAV fs t s ko ver)) (h3 : H' ko = some (outO s ver)) (hl : ∀ k, k < n → k ≠ kr → k ≠ ko → H' k = H k) (hf : Frz H' n v v') : QdE fs t kr ko H n r (.val v) H' n' := .inl ⟨v, v', s, ver, a, rfl, hr, h1, h2, h3, hl, hf⟩
theorem QdE.ok {r : Except Nat (AV × Qst)} {v v' : AV} {s : Qst} {ver m : Nat} (hr : r = .ok (v', s)) (h : QdH fs t kr ko s ver H' m) (hk : ko < n) (hl : ∀ k, k < n → k ≠ kr → k ≠ ko → H' k = H k) (hf : Frz H' n v v') : QdE fs t kr ko H n r (.val v) H' n' := .inl ⟨v, v', s, ver, _, rfl, hr, h.r, .kl (Kg fs t s hk), h.o, hl, hf⟩
theorem QdK.up {r : Except Nat (AV × Qst)} {v : AV} {H2 : Heap} {n2 : Nat} {r0 : Except Nat (AV × Qst)} (h : QdK fs t kr ko H' n' r (.pan v) H2 n2) (hr : ∀ p, r = .error p → r0 = .error p) (hn : n ≤ n') (hl : ∀ k, k < n → k ≠ kr → k ≠ ko → H' k = H k) : QdE fs t kr ko H n r0 (.pan v) H2 n2 := by
 obtain ⟨p, h1, rfl, h2, h3⟩ := h.pan
 exact QdE.err (hr p h1) (Nat.le_trans hn h2) fun k e1 e2 e3 => (h3 k (Nat.lt_of_lt_of_le e1 hn) e2 e3).trans (hl k e1 e2 e3)
theorem QdK.fin {P : Program} {f : FuncId} {args : List AV} {r : Except Nat (AV × Qst)} (hk : kr < n) (hk2 : ko < n) (hne : kr ≠ ko) (h : Zn P f args H n (QdE fs t kr ko H n r)) : Zn P f args H n (QdK fs t kr ko H n r) :=
 PX (h.mono fun res H1 n' hd => by
   rcases hd with ⟨v, v', s, ver, a, h1, h2, h3, h4, h5, h6, h7⟩ | ⟨p, h1, h2, h3, h4⟩
   ·refine .inl ⟨v, v', qst fs t kr ko s ver H, h1, fun k hk3 => ?_, fun k hk3 => ?_, h7, ?_⟩
    ·unfold qst
     by_cases e : k = kr
     ·subst e
      exact .inr ⟨0, 10, [a], [qdAV fs t s ko ver], h3, Pk _ _ _, .cons h4 .nil⟩
     ·rw [LowO, Pi _ _ e]
      by_cases e2 : k = ko
      ·subst e2
       rw [Pk, h5]
       exact .inl ⟨rfl, .inr fun o ho => by cases ho; exact XQ wdAV (fun x => Mj x n) _⟩
      ·rw [Pi _ _ e2, h6 k hk3 e e2]
       exact .inl ⟨rfl, .inl rfl⟩
    ·unfold qst
     rw [Pi _ _ om, Pi _ _ om]
    ·rw [h2]; exact ⟨ver, rfl, rfl, rfl⟩
   ·exact .inr ⟨_, h2, by rw [h1]; exact ⟨rfl, h3, h4⟩⟩)
end
def digN (l : List UInt8) : Nat := l.foldl (fun n c => 10 * n + (c.toNat - 48)) 0
theorem digN_snoc (l : List UInt8) (c : UInt8) : digN (l ++ [c]) = 10 * digN l + (c.toNat - 48) := by simp [digN]
theorem digN_lt' : ∀ (l : List UInt8) (a : Nat), (∀ c ∈ l, Zw c = true) → l.foldl (fun n c => 10 * n + (c.toNat - 48)) a < (a + 1) * 10 ^ l.length
 | [], a, _ => osi
 | c :: l, a, h => by
   have ih := digN_lt' l (10 * a + (c.toNat - 48)) fun x hx => h x (by simp [hx])
   have h2 := h c osi
   unfold Zw at h2
   simp only [Bool.and_eq_true, decide_eq_true_eq] at h2
   rw [List.foldl_cons, List.length_cons, Nat.pow_succ, Nat.mul_comm (10 ^ l.length), ← Nat.mul_assoc]
   exact Nat.lt_of_lt_of_le ih (Nat.mul_le_mul_right _ om)
theorem digN_lt (l : List UInt8) (h : ∀ c ∈ l, Zw c = true) : digN l < 10 ^ l.length := by
 have := digN_lt' l 0 h
 simpa [digN] using this
theorem digN_step {l : List UInt8} (hl : ∀ c ∈ l, Zw c = true) {i : Nat} (h : i < l.length) (h14 : i < 14) : digN (l.take i) < 100000000000000 ∧ 48 ≤ (l.getD i 0).toNat ∧ (l.getD i 0).toNat ≤ 57 ∧ digN (l.take (i + 1)) = 10 * digN (l.take i) + ((l.getD i 0).toNat - 48) := by
 have h1 := digN_lt (l.take i) fun c hc => hl c (List.mem_of_mem_take hc)
 have h2 : 10 ^ (l.take i).length ≤ 10 ^ 14 := Nat.pow_le_pow_right om (by rw [List.length_take]; omega)
 have e : l.getD i 0 = l[i] := by simp [List.getD, h]
 have h3 := hl l[i] (List.getElem_mem h)
 unfold Zw at h3
 simp only [Bool.and_eq_true, decide_eq_true_eq] at h3
 refine ⟨om, by rw [e]; omega, by rw [e]; omega, ?_⟩
 rw [List.take_succ_eq_append_getElem h, digN_snoc, e]
theorem numF_eq (t : List UInt8) (p : Nat) : numF t p = if 1099511627776 < digN (((t.drop p).takeWhile Zw).take 14) ∨ (1 < ((t.drop p).takeWhile Zw).length ∧ ((t.drop p).takeWhile Zw).getD 0 0 = 48) then none else some (⟨2, p, (t.drop p).takeWhile Zw, digN (((t.drop p).takeWhile Zw).take 14), []⟩, ZI Zw t p) := rfl
theorem NQ60.eqs {P Q : Prop} (g : Imp P Q := by (try simp only [go_sem, seval, hR1, hszs, wdAV, hszb, hkn, hnk]); exact Pm) : Imp P Q := g
theorem NQ60.sd {P : Prop} (g : P := by first | exact ⟨by (simp; first | done | fail), by first | (simp; first | done | fail) | simpa using hw1, by first | (simp; first | done | fail) | simpa using hw2⟩ | (intro hx; simp at hx; omega) | (intros; simp_all; done) | fail) : P := g
open NQ60 NZ in
theorem NT (fs : List Fml) (t : List UInt8) (s : Qst) (kr ko ver : Nat) (ht : t.length ≤ 512) (p : Nat) (hp : p ≤ t.length) (H : Heap) (n : Nat) (h : QdH fs t kr ko s ver H n) :
   Zn prog 116 [.loc kr 0 0 0 [], .int .i64 p] H n (QdK fs t kr ko H n (match numF t p with | some x => .ok (wdAV x.1, { s with far := x.2 }) | none => .error p)) := by
 have hR := h.r
 have hR1 := hR
 unfold qdO at hR1
 have hk := h.lr
 have hko := h.lo
 have hne := h.ne
 have hszs : (Zi fs).sz = 1 := rfl
 have hszb : ∀ b, (bys b).sz = 1 := fun _ => rfl
 have hkn : kr ≠ n := om
 have hnk : n ≠ kr := om
 obtain ⟨hw1, hw2⟩ := Xw Zw t p hp
 have hcut := UN Zw t p
 have hdl := KI Zw (t.drop p)
 rw [List.length_drop] at hdl
 have hds : ∀ c ∈ (t.drop p).takeWhile Zw, Zw c = true := fun c hc => by
   have := List.all_takeWhile (p := Zw) (l := t.drop p)
   exact List.all_eq_true.1 this c hc
 obtain ⟨r, hr⟩ : ∃ r, r = (match numF t p with | some x => .ok (wdAV x.1, { s with far := x.2 }) | none => .error p : Except Nat (AV × Qst)) := ⟨_, rfl⟩
 rw [← hr]
 rw [numF_eq] at hr
 generalize (t.drop p).takeWhile Zw = d at *
 refine QdK.fin hk hko hne ?_
 refine fw func116 ntmps116 results116 ?_
 refine rg zs [0, 1, 4] ?_
 refine rk zs [0, 1, 4] fun K V => ?_
 refine ck func111 ((Um fs t s kr ko ver ht p hp Zw _ func115 rfl rfl _ _ (fun b _ _ => Uo b _ _) (by simp [Heap.put, hkn, hR]))) ?_
 apply V; clear V K
 refine YS rfl zs [1, 4, 5] [.m, .q, .q, .q, .m, .m, .q, .q, .q, .q, .q] [0, 1, 2, 3, 4, 5, 6, 7, 8, 9, 10] [0, 1, 2, 3, 4, 5, 6, 7, 8, 9, 10] (by kernel_rfl) (fun _ _ _ _ _ h => h) fun K V => ?_
 try simp only [go_sem, seval, hR1, hszs, wdAV, hszb, hkn, hnk, Option.getD_some, Int.toNat_natCast, hcut]
 repeat (first | (refine And.intro ?_ ?_; · first | exact ⟨osi, by first | (simp; first | done | fail) | simpa using hw1, by first | (simp; first | done | fail) | simpa using hw2⟩) | refine peel ?_)
 apply V; clear V K
 refine rg zs [1, 4, 5, 6] ?_
 refine Za fun K1 hK1 => ?_
 refine rg zs [1, 4, 5, 6, 7] ?_
 refine Zy ?_
 refine Zp (fun T' H' n' => ∃ i : Nat, i ≤ d.length ∧ i ≤ 14 ∧ T' = tl [(1, .int .i64 p), (4, .loc n 0 0 0 []), (5, .str d), (6, .int .i64 (digN (d.take i))), (7, .int .i64 i)] ∧ H' = (H.put n (some (.arr 0 5 [.agg [.int .i64 0, .int .i64 0, .str [], .int .i64 0, .nilsl]]))).put kr (some (qdO fs t { s with far := ZI Zw t p } ko ver)) ∧ n' = n + 1) (fun T' _ _ => 14 - iv (T' 7)) ?_ ?_
 ·exact ⟨0, om, om, rfl, rfl, rfl⟩
 rintro T1 H1 n1 ⟨i, hi, hi14, rfl, rfl, rfl⟩
 refine Za fun K2 hK2 => ?_
 refine rg zs [1, 4, 5, 6, 7, 31] ?_
 refine Zb ?_ ?_ <;> intro hb
 ·have hb1 : i < d.length ∧ i < 14 := by have hb0 : i < d.length ∧ (i : Int) < 14 := osb; exact ⟨hb0.1, om⟩
  obtain ⟨g1, g2, g3, g4⟩ := digN_step hds hb1.1 hb1.2
  have e1 : IntKind.u8.wrap ((((d.getD i 0).toNat : Nat) : Int) - 48) = (((d.getD i 0).toNat - 48 : Nat) : Int) := by rw [IntKind.wrap_u8]; omega
  have e2 : IntKind.i64.wrap (10 * ((digN (d.take i) : Nat) : Int)) = ((10 * digN (d.take i) : Nat) : Int) := by rw [w64 om om]; omega
  have e3 : IntKind.i64.wrap ((((d.getD i 0).toNat - 48 : Nat) : Int)) = (((d.getD i 0).toNat - 48 : Nat) : Int) := w64 om om
  have e4 : IntKind.i64.wrap (((10 * digN (d.take i) : Nat) : Int) + (((d.getD i 0).toNat - 48 : Nat) : Int)) = ((digN (d.take (i + 1)) : Nat) : Int) := by rw [w64 om om]; omega
  refine ak ?_
  apply hK2
  refine bk fun K3 hK3 => ?_
  refine rg1 zs [1, 4, 5, 6, 7] ?_
  apply hK3
  refine rg1 zs [1, 4, 5, 6, 7] ?_
  refine ⟨⟨i + 1, om, om, ?_⟩, by rw [w1 om]; simp; omega⟩
  rw [Int.toNat_natCast, e1, e2, e3, e4, w1 om]
 have htk : d.take i = d.take 14 := by
   have hb0 : ¬ (i < d.length ∧ i < 14) := (by intro hc; have : ((i : Int) < 14) := om; simp [hc.1, this] at hb)
   by_cases h14 : i = 14
   ·rw [h14]
   ·rw [List.take_of_length_le om, List.take_of_length_le om]
 have hbad : (bif decide (1099511627776 < ((digN (d.take i) : Nat) : Int)) then true else bif decide (1 < (d.length : Int)) then (((d.getD 0 0).toNat : Nat) : Int) == 48 else false) = decide (1099511627776 < digN (d.take 14) ∨ (1 < d.length ∧ d.getD 0 0 = 48)) := by
   rw [htk]
   have q1 : decide (1099511627776 < ((digN (d.take 14) : Nat) : Int)) = decide (1099511627776 < digN (d.take 14)) := decide_eq_decide.2 om
   have q2 : decide (1 < (d.length : Int)) = decide (1 < d.length) := decide_eq_decide.2 om
   have q3 : ((((d.getD 0 0).toNat : Nat) : Int) == 48) = decide (d.getD 0 0 = 48) := by rw [Bool.eq_iff_iff, beq_iff_eq, decide_eq_true_eq]; constructor; (intro hh; exact UInt8.toNat_inj.1 (by show _ = 48; omega)); (intro hh; rw [hh]; rfl)
   rw [q1, q2, q3]
   by_cases c1 : 1099511627776 < digN (d.take 14) <;> by_cases c2 : 1 < d.length <;> simp [c1, c2]
 refine ax ?_
 apply hK1
 refine Za fun K4 hK4 => ?_
 refine rg zs [1, 4, 5, 6, 53] ?_
 refine Zb ?_ ?_ <;> intro hb
 ·have hbad1 : (1099511627776 < digN (d.take 14) ∨ (1 < d.length ∧ d.getD 0 0 = 48)) := of_decide_eq_true (hbad ▸ hb)
  refine rk1 zs [1, 4, 5, 6] fun K V => ?_
  refine Zt (args' := [.int .i64 p]) func80 rfl rfl rfl (Ya p _ _) ?_ ?_
  ·rintro rr H' n' ⟨rfl, rfl, h1⟩
   cases h1
  rintro q H' n' ⟨rfl, rfl, h1⟩
  cases h1
  refine QdE.err ?_ om ?_
  ·rw [hr, if_pos hbad1]
  ·intro k e1 e2 e3; rw [Pi _ _ e2, Pi _ _ om]
 have hbad1 : ¬ (1099511627776 < digN (d.take 14) ∨ (1 < d.length ∧ d.getD 0 0 = 48)) := of_decide_eq_false (hbad ▸ hb)
 refine ak ?_
 apply hK4
 refine rg zs [4] ?_
 refine ar ?_
 rw [if_neg hbad1] at hr
 refine QdE.val hr (by rw [Pi _ _ hkn, Pk]; rfl) (.kl (Kg fs t _ hko)) ?_ ?_ ?_
 ·rw [Pi _ _ om, Pi _ _ hne.symm, Pi _ _ om]; exact h.o
 ·intro k e1 e2 e3; rw [Pi _ _ om, Pi _ _ e2, Pi _ _ om]
 ·rw [htk]; exact .agg (.cons (.kl trivial) (.cons (.kl trivial) (.cons (.kl trivial) (.cons (.kl trivial) (.cons .nilsl .nil)))))
structure StrS (H : Heap) (n p : Nat) (s x : List UInt8) (v2 v3 : Nat) (H' : Heap) : Prop where
 r : H' n = some (.arr 0 5 [.agg [.int .i64 0, .int .i64 0, .str [], .int .i64 0, .nilsl]])
 w : H' (n + 1) = some (.arr 0 5 [.agg [.int .i64 3, .int .i64 p, .str [], .int .i64 0, .osl (n + 3) v3 0 s.length]])
 x : H' (n + 2) = some (.arr v2 1 (x.map Zd))
 s : H' (n + 3) = some (.arr v3 1 (s.map Zd))
 low : ∀ k, k < n → H' k = H k
theorem Jj {c : UInt8} (h : hexI c < 0) : hexV c = none := by
 unfold hexI at h
 cases e : hexV c with
 | none => rfl
 | some x => rw [e] at h; simp only at h; omega
theorem Jk {c : UInt8} (h : 0 ≤ hexI c) : ∃ a, hexV c = some a ∧ hexI c = ((a : Nat) : Int) := by
 unfold hexI at h ⊢
 cases e : hexV c with
 | none => rw [e] at h; exact absurd h odc
 | some x => exact ⟨x, rfl, rfl⟩
theorem and15 (c : UInt8) : intBits .and .u8 (c.toNat : Int) 15 = ((c.toNat % 16 : Nat) : Int) := by
 have key : ∀ r : Fin 256, intBits .and .u8 ((r.1 : Nat) : Int) 15 = ((r.1 % 16 : Nat) : Int) := by decide +kernel
 exact key ⟨c.toNat, c.toNat_lt⟩
theorem shr4 (c : UInt8) : ((c.toNat : Nat) : Int).fdiv (2 ^ min 4 8) = ((c.toNat / 16 : Nat) : Int) := by
 rw [show (2 : Int) ^ (min 4 8) = 16 by decide, Int.fdiv_eq_ediv_of_nonneg _ odc]
 omega
theorem or_hex {a b : Nat} (ha : a < 16) (hb : b < 16) : IntKind.u8.wrap (intBits .or .i64 (IntKind.i64.wrap ((a : Int) * 2 ^ (min 4 64))) (b : Int)) = ((UInt8.ofNat (16 * a + b)).toNat : Int) := by
 have key : ∀ (x y : Fin 16), IntKind.u8.wrap (intBits .or .i64 (IntKind.i64.wrap (((x.1 : Nat) : Int) * 2 ^ (min 4 64))) ((y.1 : Nat) : Int)) = ((UInt8.ofNat (16 * x.1 + y.1)).toNat : Int) := by decide +kernel
 exact key ⟨a, ha⟩ ⟨b, hb⟩
theorem hexC_getD {a : Nat} (ha : a < 16) : ([48, 49, 50, 51, 52, 53, 54, 55, 56, 57, 97, 98, 99, 100, 101, 102] : List UInt8).getD a 0 = hexC a := by
 have key : ∀ (x : Fin 16), ([48, 49, 50, 51, 52, 53, 54, 55, 56, 57, 97, 98, 99, 100, 101, 102] : List UInt8).getD x.1 0 = hexC x.1 := by decide +kernel
 exact key ⟨a, ha⟩
theorem StrS.step {H H2 : Heap} {n p : Nat} {s x : List UInt8} {v2 v3 : Nat} (h : StrS H n p s x v2 v3 H2) (c : UInt8) (ys : List UInt8) {zs : List AV} (hz : zs = ys.map Zd) :
   StrS H n p (s ++ [c]) (x ++ ys) (v2 + 1) (v3 + 1) (((H2.put (n + 3) (some (.arr (v3 + 1) 1 (s.map Zd ++ [.int .u8 c.toNat])))).put (n + 1) (some (.arr 0 5 [.agg [.int .i64 3, .int .i64 p, .str [], .int .i64 0, .osl (n + 3) (v3 + 1) 0 (s.length + 1)]]))).put (n + 2) (some (.arr (v2 + 1) 1 (x.map Zd ++ zs)))) where
 r := by rw [Pi _ _ om, Pi _ _ om, Pi _ _ om]; exact h.r
 w := by rw [Pi _ _ om, Pk, List.length_append]; rfl
 x := by rw [Pk, List.map_append, hz]
 s := by rw [Pi _ _ om, Pi _ _ om, Pk, List.map_append]; rfl
 low := fun k hk => by rw [Pi _ _ om, Pi _ _ om, Pi _ _ om]; exact h.low k hk
theorem NQs0.eqs {P Q : Prop} (g : Imp P Q := by (try simp only [go_sem, seval, hR1, hszs, wdAV, hszb, e0, hS0, hS1, hS2, hS3, hx, List.length_map, f1, f2, f3, f4, f5, f6, f7, f8, f9, g1, g2, g3, g4, g5, g6, g7, g8, g9, Int.toNat_natCast]); exact Pm) : Imp P Q := g
theorem NQs0.sd {P : Prop} (g : P := by first | (intro hx9; rcases Nat.lt_or_ge (i + 2) t.length with q | q; exact ⟨om, om⟩; rw [decide_eq_true om] at hx9; cases hx9) | (intros; simp_all; done) | exact ⟨rfl, by (simp [AV.sz, AV.memOK]; first | done | fail)⟩ | fail) : P := g
set_option maxHeartbeats 1600000 in
open NQs0 NZ in
theorem c_query_str (fs : List Fml) (t : List UInt8) (s : Qst) (kr ko ver : Nat) (ht : t.length ≤ 512) (p : Nat) (hp : p < t.length) (H : Heap) (n : Nat) (h : QdH fs t kr ko s ver H n) :
   Zn prog 117 [.loc kr 0 0 0 [], .int .i64 p] H n (QdK fs t kr ko H n (match strF t p with | some x => .ok (wdAV x.1, { s with far := x.2 }) | none => .error p)) := by
 have hR := h.r
 have hR1 := hR
 unfold qdO at hR1
 have hk := h.lr
 have hko := h.lo
 have hne := h.ne
 have hszs : (Zi fs).sz = 1 := rfl
 have hszb : ∀ b, (bys b).sz = 1 := fun _ => rfl
 obtain ⟨r, hr⟩ : ∃ r, r = (match strF t p with | some x => .ok (wdAV x.1, { s with far := x.2 }) | none => .error p : Except Nat (AV × Qst)) := ⟨_, rfl⟩
 rw [← hr]
 unfold strF at hr
 generalize hG : strG (t.length + 1) (t.drop (p + 1)) (p + 1) [] [34] = G at hr
 have e0 : IntKind.i64.wrap ((p : Int) + 1) = ((p + 1 : Nat) : Int) := by rw [w64 om om]; omega
 have hS0 := hszs
 have hS1 := hszs
 have hS2 := hszs
 have hS3 := hszs
 have hx := hszs
 have f1 : (n = n + 1) = False := osi
 have f2 : (n = n + 2) = False := osi
 have f3 : (n = n + 3) = False := osi
 have f4 : (n + 1 = n) = False := osi
 have f5 : (n + 1 = n + 2) = False := osi
 have f6 : (n + 1 = n + 3) = False := osi
 have f7 : (n + 2 = n) = False := osi
 have f8 : (n + 2 = n + 1) = False := osi
 have f9 : (n + 2 = n + 3) = False := osi
 have g1 : (n + 3 = n) = False := osi
 have g2 : (n + 3 = n + 1) = False := osi
 have g3 : (n + 3 = n + 2) = False := osi
 have g4 : (n = kr) = False := oz
 have g5 : (n + 1 = kr) = False := oz
 have g6 : (n + 2 = kr) = False := oz
 have g7 : (n + 3 = kr) = False := oz
 have g8 : (kr = n) = False := oz
 have g9 : (kr = n + 1) = False := oz
 refine QdK.fin hk hko hne ?_
 refine fw func117 ntmps117 results117 ?_
 refine rg zs [0, 1, 4] ?_
 refine rg zs [0, 1, 4, 5] ?_
 refine rg zo [0, 1, 4, 5, 6] ?_
 refine Za fun K1 hK1 => ?_
 refine rg zs [0, 1, 4, 5, 6, 7] ?_
 refine Zy ?_
 refine Yq (n + 1) 1 (ver := 0) (e := 5) (els := [.agg [.int .i64 3, .int .i64 p, .str [], .int .i64 0, .nilsl]]) (els' := [.agg [.int .i64 3, .int .i64 p, .str [], .int .i64 0, .osl (n + 3) 0 0 0]]) (by simp [Heap.put]) ⟨Adp.agg ⟨.refl _ _, .refl _ _, .refl _ _, .refl _ _, Adp.nilsl _, trivial⟩, trivial⟩ ?_
 refine Zp (fun T' H' n' => ∃ (i f : Nat) (s x : List UInt8) (v2 v3 : Nat), p < i ∧ i ≤ t.length ∧ t.length + p + 2 ≤ f + i ∧ strG f (t.drop i) i s x = G ∧ s.length ≤ i ∧ x.length ≤ 3 * i + 1 ∧ T' = tl [(0, .loc kr 0 0 0 []), (1, .int .i64 p), (4, .loc n 0 0 0 []), (5, .loc (n + 1) 0 0 0 []), (6, .osl (n + 2) v2 0 x.length), (7, .int .i64 i)] ∧ StrS H n p s x v2 v3 H' ∧ n' = n + 4) (fun T' _ _ => t.length - iv (T' 7)) ?_ ?_
 ·exact ⟨p + 1, t.length + 1, [], [34], 0, 0, om, om, om, hG, osi, osi, rfl, ⟨by simp [Heap.put]; omega, by simp [Heap.put], by simp [Heap.put, Zd], by simp [Heap.put], fun k hk => by simp only [Pj]; (repeat rw [if_neg om])⟩, om⟩
 rintro T1 H1 n1 ⟨i, f, s1, x1, v2, v3, hpi, hit, hfi, hgi, hsl, hxl, rfl, hS, rfl⟩
 obtain ⟨f, rfl⟩ : ∃ g, f = g + 1 := ⟨f - 1, om⟩
 have hR1 := (hS.low kr hk).trans hR1
 have hS1 := hS.w
 have hS2 := hS.x
 have hS3 := hS.s
 have hS0 := hS.r
 refine Za fun K2 hK2 => ?_
 refine rg zs [0, 1, 4, 5, 6, 7, 20] ?_
 refine Zb ?_ ?_ <;> intro hb
 ·have hlt : i < t.length := ott
  have hx : IntKind.i64.wrap ((i : Int) + 1) = ((i + 1 : Nat) : Int) := w1 om
  obtain ⟨c, hc⟩ : ∃ c, c = t.getD i 0 := ⟨_, rfl⟩
  have hcl := c.toNat_lt
  have e34 : List.take x1.length (List.map Zd x1) = List.map Zd x1 := List.take_of_length_le osi
  have e35 : List.take (x1.length + 1) (List.map Zd x1 ++ [AV.int .u8 34]) = List.map Zd (x1 ++ [34]) := by rw [List.take_of_length_le osi]; simp [Zd]
  refine ak ?_
  apply hK2
  refine ZQ [0, 1, 4, 5, 6, 7] (fun T' H' n' => ∃ (i' f' : Nat) (s' x' : List UInt8) (v2' v3' : Nat), i ≤ i' ∧ i' < t.length ∧ t.length + p + 2 ≤ f' + i' + 1 ∧ strG f' (t.drop (i' + 1)) (i' + 1) s' x' = G ∧ s'.length ≤ i' + 1 ∧ x'.length ≤ 3 * (i' + 1) + 1 ∧ T' = tl [(0, .loc kr 0 0 0 []), (1, .int .i64 p), (4, .loc n 0 0 0 []), (5, .loc (n + 1) 0 0 0 []), (6, .osl (n + 2) v2' 0 x'.length), (7, .int .i64 i')] ∧ StrS H n p s' x' v2' v3' H' ∧ n' = n + 4) ?_ ?_
  ·refine Zy ?_
   refine Zf zs [0, 1, 4, 5, 6, 7, 8] fun K V => ?_
   try simp only [go_sem, seval, hR1, hszs, wdAV, hszb, e0, hS0, hS1, hS2, hS3, hx, List.length_map, f1, f2, f3, f4, f5, f6, f7, f8, f9, g1, g2, g3, g4, g5, g6, g7, g8, g9, Int.toNat_natCast, ← hc]
   repeat (first | (refine And.intro ?_ ?_; · first | exact ⟨om, om⟩) | refine peel ?_)
   apply V; clear V K
   refine ZQ [0, 1, 4, 5, 6, 7, 8] (fun T' H' n' => ∃ (i' f' : Nat) (c' : UInt8), i ≤ i' ∧ i' < t.length ∧ t.length + p + 2 ≤ f' + i' + 1 ∧ strG f' (t.drop (i' + 1)) (i' + 1) (s1 ++ [c']) (x1 ++ Xf c') = G ∧ T' = tl [(0, .loc kr 0 0 0 []), (1, .int .i64 p), (4, .loc n 0 0 0 []), (5, .loc (n + 1) 0 0 0 []), (6, .osl (n + 2) v2 0 x1.length), (7, .int .i64 i'), (8, Zd c')] ∧ H' = H1 ∧ n' = n + 4) ?_ ?_
   ·refine Zy ?_
    refine rg zs [0, 1, 4, 5, 6, 7, 8, 29] ?_
    refine Zb ?_ ?_ <;> intro hb
    ·have k0 : (t.getD i 0).toNat = 34 := by rw [← hc]; have h9 := hb; simp at h9; omega
     refine rg zs [4, 5, 6] ?_
     refine Zf zs [4, 5] fun K V => ?_
     try simp only [go_sem, seval, hR1, hszs, wdAV, hszb, e0, hS0, hS1, hS2, hS3, hx, List.length_map, f1, f2, f3, f4, f5, f6, f7, f8, f9, g1, g2, g3, g4, g5, g6, g7, g8, g9, Int.toNat_natCast, e34, e35, Zq]
     repeat (first | (refine And.intro ?_ ?_; · first | exact ⟨rfl, by simp [AV.sz, AV.memOK]⟩ | exact ⟨om, .inr trivial, om, om⟩ | exact ⟨osi, Yl _⟩) | refine peel ?_)
     apply V; clear V K
     refine rg zs [4] ?_
     refine ar ?_
     rw [MF hlt k0] at hgi
     rw [← hgi] at hr
     refine QdE.val (s := { s with far := i + 1 }) (ver := ver) hr (by rw [Pi _ _ om, Pi _ _ om, Pi _ _ om, Pk]; rfl) (.kl (Kg fs t _ hko)) ?_ ?_ ?_
     ·rw [Pi _ _ om, Pi _ _ om, Pi _ _ om, Pi _ _ hne.symm, hS.low ko hko]; exact h.o
     ·intro k e1 e2 e3; rw [Pi _ _ om, Pi _ _ om, Pi _ _ om, Pi _ _ e2, hS.low k e1]
     ·exact .agg (.cons (.kl trivial) (.cons (.kl trivial) (.cons (.kl trivial) (.cons (.kl trivial) (.cons (.osl (els := s1.map Zd) (ver := v3) (by rw [Pi _ _ om, Pi _ _ om, Pi _ _ om, Pi _ _ om]; exact hS.s) om osi (by rw [List.drop_zero, List.take_of_length_le osi]; exact XR _ (Z0 _ _))) .nil)))))
    have k0 : ¬ (t.getD i 0).toNat = 34 := by rw [← hc]; have h9 := hb; simp at h9; omega
    refine rg zs [0, 1, 4, 5, 6, 7, 8, 43] ?_
    refine Zb ?_ ?_ <;> intro hb
    ·have k1 : (t.getD i 0).toNat < 32 ∨ 126 < (t.getD i 0).toNat := by rw [← hc]; have h9 := hb; simp at h9; omega
     refine rk1 zs [0, 1, 4, 5, 6, 7, 8] fun K V => ?_
     refine Zt (args' := [.int .i64 p]) func80 rfl rfl rfl (Ya p _ _) ?_ ?_
     ·rintro rr H' n' ⟨rfl, rfl, h1⟩
      cases h1
     rintro q H' n' ⟨rfl, rfl, h1⟩
     cases h1
     refine QdE.err ?_ om (fun k e1 e2 e3 => hS.low k e1)
     rw [hr, ← hgi, strG_bad hlt k0 k1]; rfl
    have k1 : ¬ ((t.getD i 0).toNat < 32 ∨ 126 < (t.getD i 0).toNat) := by rw [← hc]; have h9 := hb; simp at h9; omega
    refine rg zs [0, 1, 4, 5, 6, 7, 8, 52] ?_
    refine Zb ?_ ?_ <;> intro hb
    ·have k2 : (t.getD i 0).toNat = 92 := by rw [← hc]; have h9 := hb; simp at h9; omega
     refine rg zs [0, 1, 4, 5, 6, 7] ?_
     refine Za fun K3 hK3 => ?_
     refine rg zs [0, 1, 4, 5, 6, 7, 63] ?_
     refine Zb ?_ ?_ <;> intro hb
     ·have k3 : t.length ≤ i + 1 := by have h9 := hb; simp at h9; omega
      refine rk1 zs [0, 1, 4, 5, 6, 7] fun K V => ?_
      refine Zt (args' := [.int .i64 p]) func80 rfl rfl rfl (Ya p _ _) ?_ ?_
      ·rintro rr H' n' ⟨rfl, rfl, h1⟩
       cases h1
      rintro q H' n' ⟨rfl, rfl, h1⟩
      cases h1
      refine QdE.err ?_ om (fun k e1 e2 e3 => hS.low k e1)
      rw [hr, ← hgi, strG_esc0 hlt k2 k3]; rfl
     have k3 : i + 1 < t.length := by have h9 := hb; simp at h9; omega
     have hx := w1 (i := i + 1) om
     obtain ⟨d, hd⟩ : ∃ d, d = t.getD (i + 1) 0 := ⟨_, rfl⟩
     have hdl := d.toNat_lt
     refine ak ?_
     apply hK3
     refine Zf zs [0, 1, 4, 5, 6, 7, 8] fun K V => ?_
     try simp only [go_sem, seval, hR1, hszs, wdAV, hszb, e0, hS0, hS1, hS2, hS3, hx, List.length_map, f1, f2, f3, f4, f5, f6, f7, f8, f9, g1, g2, g3, g4, g5, g6, g7, g8, g9, Int.toNat_natCast, ← hd]
     repeat (first | (refine And.intro ?_ ?_; · first | exact ⟨om, om⟩) | refine peel ?_)
     apply V; clear V K
     refine rg zs [0, 1, 4, 5, 6, 7, 8, 77] ?_
     refine Zb ?_ ?_ <;> intro hb
     ·have k4 : ¬ ((t.getD (i + 1) 0).toNat = 34 ∨ (t.getD (i + 1) 0).toNat = 92) := by rw [← hd]; have h9 := hb; simp at h9; omega
      refine Za fun K4 hK4 => ?_
      refine rk zs [0, 1, 4, 5, 6, 7, 8, 101] fun K V => ?_
      refine cg func140 (fun _ => (Ub d _ _)) ?_
      refine cg func140 (fun _ => (Ub (t.getD (i + 2) 0) _ _)) ?_
      apply V; clear V K
      refine Zb ?_ ?_ <;> intro hb
      ·have k5 : strG (f + 1) (t.drop i) i s1 x1 = none := by
         rcases Nat.lt_or_ge (i + 2) t.length with q | q
         ·rw [decide_eq_false om] at hb
          refine strG_esc3 q k2 k4 ?_
          by_cases hd0 : hexI d < 0
          ·left; rw [← hd]; exact Jj hd0
          ·right; rw [decide_eq_false hd0] at hb; exact Jj (of_decide_eq_true hb)
         ·exact strG_esc2 k3 k2 k4 q
       refine rk1 zs [0, 1, 4, 5, 6, 7, 8] fun K V => ?_
       refine Zt (args' := [.int .i64 p]) func80 rfl rfl rfl (Ya p _ _) ?_ ?_
       ·rintro rr H' n' ⟨rfl, rfl, h1⟩
        cases h1
       rintro q H' n' ⟨rfl, rfl, h1⟩
       cases h1
       refine QdE.err ?_ om (fun k e1 e2 e3 => hS.low k e1)
       rw [hr, ← hgi, k5]; rfl
      have k7 : i + 2 < t.length := by rcases Nat.lt_or_ge (i + 2) t.length with q | q; exact q; rw [decide_eq_true om] at hb; cases hb
      rw [decide_eq_false om] at hb
      obtain ⟨a, ha, ha2⟩ : ∃ a, hexV d = some a ∧ hexI d = ((a : Nat) : Int) := Jk (by by_cases q : hexI d < 0; (rw [decide_eq_true q] at hb; cases hb); omega)
      obtain ⟨b, hb2, hb3⟩ : ∃ b, hexV (t.getD (i + 2) 0) = some b ∧ hexI (t.getD (i + 2) 0) = ((b : Nat) : Int) := Jk (by by_cases q : hexI (t.getD (i + 2) 0) < 0; (rw [decide_eq_true q] at hb; cases h : decide (hexI d < 0) <;> rw [h] at hb <;> cases hb); omega)
      have hal := Mm ha
      have hbl := Mm hb2
      refine ak ?_
      apply hK4
      refine YS rfl zs [0, 1, 4, 5, 6, 7, 8] [.m, .c, .q, .m, .q, .q, .q, .m, .q, .q, .c, .q, .q, .q] [0, 1, 2, 3, 4, 5, 6, 7, 8, 9, 10, 11, 12, 13] [0, 1, 2, 3, 4, 5, 6, 7, 8, 9, 10, 11, 12, 13] (by kernel_rfl) (fun _ _ _ _ _ h => h) fun K V => ?_
      try simp only [go_sem, seval, hR1, hszs, wdAV, hszb, e0, hS0, hS1, hS2, hS3, hx, List.length_map, f1, f2, f3, f4, f5, f6, f7, f8, f9, g1, g2, g3, g4, g5, g6, g7, g8, g9, Int.toNat_natCast, ha2, hb3]
      repeat refine peel ?_
      refine ZY func140 rfl rfl rfl (fun _ n => (Ub d _ _)) ?_
      try simp only [go_sem, seval, hR1, hszs, wdAV, hszb, e0, hS0, hS1, hS2, hS3, hx, List.length_map, f1, f2, f3, f4, f5, f6, f7, f8, f9, g1, g2, g3, g4, g5, g6, g7, g8, g9, Int.toNat_natCast, ha2, hb3]
      repeat (first | (refine And.intro ?_ ?_; · first | exact ⟨om, om⟩) | refine peel ?_)
      refine ZY func140 rfl rfl rfl (fun _ n => (Ub (t.getD (i + 2) 0) _ _)) ?_
      try simp only [go_sem, seval, hR1, hszs, wdAV, hszb, e0, hS0, hS1, hS2, hS3, hx, List.length_map, f1, f2, f3, f4, f5, f6, f7, f8, f9, g1, g2, g3, g4, g5, g6, g7, g8, g9, Int.toNat_natCast, ha2, hb3]
      repeat refine peel ?_
      apply V; clear V K
      refine rg1 zs [0, 1, 4, 5, 6, 7, 8] ?_
      refine ns ?_
      exact ⟨i + 2, f, UInt8.ofNat (16 * a + b), om, k7, om, by rw [← strG_esc4 k7 k2 k4 (hd ▸ ha) hb2]; exact hgi, by rw [or_hex hal hbl]⟩
     have k4 : (t.getD (i + 1) 0).toNat = 34 ∨ (t.getD (i + 1) 0).toNat = 92 := by rw [← hd]; have h9 := hb; simp at h9; omega
     refine ak ?_
     refine ns ?_
     exact ⟨i + 1, f, d, om, k3, om, by rw [hd, ← strG_esc1 k3 k2 k4]; exact hgi, rfl⟩
    have k2 : ¬ (t.getD i 0).toNat = 92 := by rw [← hc]; have h9 := hb; simp at h9; omega
    refine ak ?_
    refine ns ?_
    exact ⟨i, f, c, om, hlt, om, by rw [hc, ← MG hlt k0 k1 k2]; exact hgi, rfl⟩
   rintro T2 H2 n2 ⟨i', f', c', q1, q2, q3, q4, rfl, rfl, rfl⟩
   have m1 : ((c'.toNat : Nat) : Int).fdiv (2 ^ min 4 8) = ((c'.toNat / 16 : Nat) : Int) := shr4 c'
   have m2 := and15 c'
   have hcl' := c'.toNat_lt
   have e36 : List.take s1.length (List.map Zd s1) = List.map Zd s1 := List.take_of_length_le osi
   refine Zf zs [0, 1, 4, 5, 6, 7, 8] fun K V => ?_
   try simp only [go_sem, seval, hR1, hszs, wdAV, hszb, e0, hS0, hS1, hS2, hS3, hx, List.length_map, f1, f2, f3, f4, f5, f6, f7, f8, f9, g1, g2, g3, g4, g5, g6, g7, g8, g9, Int.toNat_natCast, e36]
   repeat (first | (refine And.intro ?_ ?_; · first | exact ⟨rfl, by simp [AV.sz, AV.memOK]⟩ | exact ⟨om, .inr trivial, om, om⟩) | refine peel ?_)
   apply V; clear V K
   refine Zy ?_
   refine rg zs [0, 1, 4, 5, 6, 7, 8, 129] ?_
   refine Zb ?_ ?_ <;> intro hb
   ·have hq : Xf c' = [92, c'] := by unfold Xf; rw [if_pos]; have h9 := hb; simp at h9; omega
    refine ZG zs [0, 1, 4, 5, 6, 7] fun K V => ?_
    try simp only [go_sem, seval, hR1, hszs, wdAV, hszb, e0, hS0, hS1, hS2, hS3, hx, List.length_map, f1, f2, f3, f4, f5, f6, f7, f8, f9, g1, g2, g3, g4, g5, g6, g7, g8, g9, Int.toNat_natCast, e34]
    repeat (first | (refine And.intro ?_ ?_; · first | exact ⟨rfl, by simp [AV.sz, AV.memOK]⟩ | exact ⟨om, .inr trivial, om, om⟩) | refine peel ?_)
    apply V; clear V K
    refine ns ?_
    refine ns ?_
    refine ⟨i', f', s1 ++ [c'], x1 ++ Xf c', v2 + 1, v3 + 1, q1, q2, om, q4, oz, by have := WC c'; simp; omega, by rw [hq, List.length_append]; rfl, ?_⟩
    rw [hq]
    exact hS.step c' _ rfl
   have k8 : ¬ (c'.toNat = 34 ∨ c'.toNat = 92) := by have h9 := hb; simp at h9; omega
   refine rg zs [0, 1, 4, 5, 6, 7, 8, 140] ?_
   refine Zb ?_ ?_ <;> intro hb
   ·have hq : Xf c' = [92, hexC (c'.toNat / 16), hexC (c'.toNat % 16)] := by unfold Xf; rw [if_neg k8, if_pos]; have h9 := hb; simp at h9; omega
    refine QY rfl zs [0, 1, 4, 5, 6, 7] [.m, .m, .q, .q, .m, .q, .q, .q, .w [], .q] [0, 1, 2, 3, 4, 5, 6, 7, 8, 9] [0, 1, 2, 3, 4, 5, 6, 7, 8, 9] (by kernel_rfl) (fun _ _ _ _ _ h => h) fun K V => ?_
    try simp only [go_sem, seval, hR1, hszs, wdAV, hszb, e0, hS0, hS1, hS2, hS3, hx, List.length_map, f1, f2, f3, f4, f5, f6, f7, f8, f9, g1, g2, g3, g4, g5, g6, g7, g8, g9, Int.toNat_natCast, e34, m1, m2]
    repeat (first | (refine And.intro ?_ ?_; · first | exact ⟨om, om⟩ | exact ⟨rfl, by simp [AV.sz, AV.memOK]⟩ | exact ⟨om, .inr trivial, om, om⟩) | refine peel ?_)
    apply V; clear V K
    refine ns ?_
    refine ns ?_
    refine ⟨i', f', s1 ++ [c'], x1 ++ Xf c', v2 + 1, v3 + 1, q1, q2, om, q4, oz, by have := WC c'; simp; omega, by rw [hq, List.length_append]; rfl, ?_⟩
    rw [hq]
    rw [hexC_getD om, hexC_getD om]; exact hS.step c' _ rfl
   have hq : Xf c' = [c'] := by unfold Xf; rw [if_neg k8, if_neg]; have h9 := hb; simp at h9; omega
   refine ZG zs [0, 1, 4, 5, 6, 7] fun K V => ?_
   try simp only [go_sem, seval, hR1, hszs, wdAV, hszb, e0, hS0, hS1, hS2, hS3, hx, List.length_map, f1, f2, f3, f4, f5, f6, f7, f8, f9, g1, g2, g3, g4, g5, g6, g7, g8, g9, Int.toNat_natCast, e34]
   repeat (first | (refine And.intro ?_ ?_; · first | exact ⟨rfl, by simp [AV.sz, AV.memOK]⟩ | exact ⟨om, .inr trivial, om, om⟩) | refine peel ?_)
   apply V; clear V K
   refine ns ?_
   refine ns ?_
   refine ⟨i', f', s1 ++ [c'], x1 ++ Xf c', v2 + 1, v3 + 1, q1, q2, om, q4, oz, by have := WC c'; simp; omega, by rw [hq, List.length_append]; rfl, ?_⟩
   rw [hq]
   exact hS.step c' _ rfl
  rintro T2 H2 n2 ⟨i', f', s', x', v2', v3', q1, q2, q3, q4, q5, q6, rfl, q7, rfl⟩
  have hx : IntKind.i64.wrap ((i' : Int) + 1) = ((i' + 1 : Nat) : Int) := w1 om
  refine rg1 zs [0, 1, 4, 5, 6, 7] ?_
  exact ⟨⟨i' + 1, f', s', x', v2', v3', om, om, om, q4, q5, q6, rfl, q7⟩, by first | omega | (simp; omega)⟩
 have hge : t.length ≤ i := otf
 refine ax ?_
 apply hK1
 refine rk zs [4, 5] fun K V => ?_
 refine Zt (args' := [.int .i64 p]) func80 rfl rfl rfl (Ya p _ _) ?_ ?_
 ·rintro rr H' n' ⟨rfl, rfl, h1⟩
  cases h1
 rintro q H' n' ⟨rfl, rfl, h1⟩
 cases h1
 refine QdE.err ?_ om (fun k e1 e2 e3 => hS.low k e1)
 rw [hr, ← hgi, strG_end hge]; rfl
theorem NQa0.eqs {P Q : Prop} (g : Imp P Q := by (try simp only [go_sem, seval, Int.toNat_natCast, Option.getD_some, Option.getD_none, List.drop_zero]); exact Pm) : Imp P Q := g
theorem NQa0.sd {P : Prop} (g : P := by first | (intros; simp_all; done) | fail) : P := g
open NQa0 NZ in
theorem NM (a b : List UInt8) (hb : b.length ≤ 1099511627776) (H : Heap) (n : Nat) : Ret prog 141 [.str a, .str b] H n (.bool (b.isPrefixOf a)) H n := by
 refine fw func141 ntmps141 results141 ?_
 refine kb1 ?_
 refine kag ?_
 refine congrArg (fun b => ARes.val (AV.bool b)) ?_
 rw [Bool.eq_iff_iff, List.isPrefixOf_iff_prefix, List.prefix_iff_eq_take]
 by_cases h : b.length ≤ a.length
 ·rw [decide_eq_true om]; simp; exact eq_comm
 ·rw [decide_eq_false om]; simp; intro e; have := congrArg List.length e; simp at this; omega
open N0 in
theorem Jt (a b : List UInt8) (hb : b.length ≤ 1099511627776) (H : Heap) (n : Nat) : Ret prog 118 [.str a, .str b] H n (.bool (b.isPrefixOf a)) H n := by
 refine fw func118 ntmps118 results118 ?_
 refine kb1 ?_
 refine rc zs [4] func141 ((NM a b hb _ _)) ?_
 refine ar ?_
 trivial
theorem wordF_end {t : List UInt8} {p q : Nat} (h : ZI (fun c => c.toNat == 32) t p = q) (hq : t.length ≤ q) : XF t p = .ok (⟨0, q, [], 0, []⟩, q) := by
 unfold XF
 simp only [h]
 rw [List.drop_eq_nil_of_le hq]
theorem wordF_at {t : List UInt8} {p q : Nat} (h : ZI (fun c => c.toNat == 32) t p = q) (hq : q < t.length) : XF t p =
   if We (t.getD q 0) then .ok (⟨1, q, (t.drop q).takeWhile Y3, 0, []⟩, ZI Y3 t q)
   else if Zw (t.getD q 0) then (match numF t q with | some x => .ok x | none => .error q)
   else if (t.getD q 0).toNat = 34 then (match strF t q with | some x => .ok x | none => .error q)
   else match YA.find? (fun s => s.isPrefixOf (t.drop q)) with
     | some s => .ok (⟨4, q, s, 0, []⟩, q + s.length)
     | none => .error q := by
 unfold XF
 simp only [h]
 rw [drop_at hq] <;> rfl
theorem nth_signs {i : Nat} (h : i < 9) : nth [AV.str [33, 61], AV.str [60, 61], AV.str [62, 61], AV.str [61], AV.str [60], AV.str [62], AV.str [94], AV.str [40], AV.str [41]] i = AV.str (YA.getD i []) := by
 exact kbK
theorem signs_len {i : Nat} (h : i < 9) : (YA.getD i []).length ≤ 2 := by
 rcases (by omega : i = 0 ∨ i = 1 ∨ i = 2 ∨ i = 3 ∨ i = 4 ∨ i = 5 ∨ i = 6 ∨ i = 7 ∨ i = 8) with rfl | rfl | rfl | rfl | rfl | rfl | rfl | rfl | rfl <;> decide
theorem signs_drop {i : Nat} (h : i < 9) : YA.drop i = YA.getD i [] :: YA.drop (i + 1) := by
 exact kbK
theorem frzQ {H : Heap} {n : Nat} (fs : List Fml) (t : List UInt8) (a b c d e : Int) (tx : List UInt8) {ko ver l : Nat} (hk : ko < n) : Frz H n (.agg [Zi fs, .str t, .int .i64 a, .agg [.int .i64 b, .int .i64 c, .str tx, .int .i64 d, .nilsl], .osl ko ver 0 l, .int .i64 e]) (.agg [Zi fs, .str t, .int .i64 a, .agg [.int .i64 b, .int .i64 c, .str tx, .int .i64 d, .sl 1 []], .osl ko ver 0 l, .int .i64 e]) :=
 .agg (.cons (.kl (kl_schQ fs n)) (.cons (.kl trivial) (.cons (.kl trivial) (.cons (.agg (.cons (.kl trivial) (.cons (.kl trivial) (.cons (.kl trivial) (.cons (.kl trivial) (.cons .nilsl .nil)))))) (.cons (.kl hk) (.cons (.kl trivial) .nil))))))
theorem NQa1.eqs {P Q : Prop} (g : Imp P Q := by (try simp only [go_sem, seval, hR1, hszs, wdAV, hszb, hx, Int.toNat_natCast, Option.getD_some, Option.getD_none]); exact Pm) : Imp P Q := g
set_option maxHeartbeats 1600000 in
open NQa1 NY in
theorem Kr (fs : List Fml) (t : List UInt8) (s : Qst) (kr ko ver : Nat) (ht : t.length ≤ 512) (hf : s.far ≤ t.length) (H : Heap) (n : Nat) (h : QdH fs t kr ko s ver H n) :
   Zn prog 78 [.loc kr 0 0 0 []] H n (QdK fs t kr ko H n ((VW t s).map fun x => (.tup [], x))) := by
 have hR := h.r
 have hR1 := hR
 unfold qdO at hR1
 have hk := h.lr
 have hko := h.lo
 have hne := h.ne
 have hszs : (Zi fs).sz = 1 := rfl
 have hszb : ∀ b, (bys b).sz = 1 := fun _ => rfl
 have hw2 : ZI (fun c => c.toNat == 32) t s.far ≤ t.length := (Xw (fun c => c.toNat == 32) t s.far hf).2
 obtain ⟨q, hq⟩ : ∃ q, ZI (fun c => c.toNat == 32) t s.far = q := ⟨_, rfl⟩
 rw [hq] at hw2
 obtain ⟨r, hr⟩ : ∃ r, r = ((VW t s).map fun x => ((.tup [] : AV), x)) := ⟨_, rfl⟩
 rw [← hr]
 unfold VW at hr
 have hcut := UN Y3 t q
 have hx := hszs
 have fin : ∀ {H1 : Heap} {a : AV} {s2 : Qst} {v2 : Nat}, (∀ k, k ≠ kr → k ≠ ko → H1 k = H k) → H1 ko = some (outO s2 v2) → r = .ok (.tup [], s2) → Frz (H1.put kr (some (.arr 0 10 [a]))) n a (qdAV fs t s2 ko v2) → QdE fs t kr ko H n r (.val (.tup [])) (H1.put kr (some (.arr 0 10 [a]))) n := fun h0 h1 h2 h3 =>
   QdE.val h2 (Pk _ _ _) h3 (by rw [Pi _ _ hne.symm]; exact h1) (fun k _ e2 e3 => (Pi _ _ e2).trans (h0 k e2 e3)) (.tup .nil)
 refine QdK.fin hk hko hne ?_
 refine fw func78 ntmps78 results78 ?_
 refine rc zs [0, 2] func111 ((hq ▸ Um fs t s kr ko ver ht s.far hf (fun c => c.toNat == 32) _ func112 rfl rfl _ _ (fun b _ _ => c_query_blank b _ _) hR)) ?_
 refine Za fun K1 hK1 => ?_
 refine rg zs [0, 2, 18] ?_
 refine Zb ?_ ?_ <;> intro hb
 ·have hge : t.length ≤ q := by have h9 := hb; simp at h9; omega
  rw [wordF_end hq hge] at hr
  refine rg zs [] ?_
  refine ar ?_
  exact fin (s2 := { s with far := q, nxt := ⟨0, q, [], 0, []⟩ }) (fun _ _ _ => rfl) h.o hr (frzQ _ _ _ _ _ _ _ _ hko)
 have hlt : q < t.length := by have h9 := hb; simp at h9; omega
 rw [wordF_at hq hlt] at hr
 obtain ⟨c, hc⟩ : ∃ c, c = t.getD q 0 := ⟨_, rfl⟩
 rw [← hc] at hr
 have hcl := c.toNat_lt
 refine ak ?_
 apply hK1
 refine Zf zs [0, 2, 3] fun K V => ?_
 try simp only [go_sem, seval, hR1, hszs, wdAV, hszb, hx, Int.toNat_natCast, Option.getD_some, Option.getD_none, ← hc]
 repeat (first | (refine And.intro ?_ ?_; · first | exact ⟨om, om⟩) | refine peel ?_)
 apply V; clear V K
 refine Zy ?_
 refine rc zs [0, 2, 3, 62] func113 ((JA c _ _)) ?_
 refine Zb ?_ ?_ <;> intro hb
 ·rw [if_pos hb] at hr
  obtain ⟨u1, u2⟩ := Xw Y3 t q om
  refine rk zs [0, 2] fun K V => ?_
  refine ck func111 ((Um fs t s kr ko ver ht q om Y3 _ func114 rfl rfl _ _ (fun b _ _ => c_query_name b _ _) hR)) ?_
  apply V; clear V K
  refine QY rfl zs [] [.m, .m, .m, .q, .q, .q, .m, .m, .q, .q, .q, .q, .q, .q, .q, .w []] [0, 1, 2, 3, 4, 5, 6, 7, 8, 9, 10, 11, 12, 13, 14, 15] [0, 1, 2, 3, 4, 5, 6, 7, 8, 9, 10, 11, 12, 13, 14, 15] (by kernel_rfl) (fun _ _ _ _ _ h => h) fun K V => ?_
  try simp only [go_sem, seval, hR1, hszs, wdAV, hszb, hx, Int.toNat_natCast, Option.getD_some, Option.getD_none, hcut]
  repeat (first | (refine And.intro ?_ ?_; · first | exact ⟨om, om, om⟩) | refine peel ?_)
  apply V; clear V K
  refine ns ?_
  exact fin (s2 := { s with far := ZI Y3 t q, nxt := ⟨1, q, (t.drop q).takeWhile Y3, 0, []⟩ }) (fun _ _ _ => rfl) h.o hr (frzQ _ _ _ _ _ _ _ _ hko)
 rw [if_neg (by rw [hb]; simp)] at hr
 refine rc zs [0, 2, 3, 86] func115 ((Uo c _ _)) ?_
 refine Zb ?_ ?_ <;> intro hb
 ·rw [if_pos hb] at hr
  refine rk1 zs [] fun K V => ?_
  refine cK func116 (NT fs t s kr ko ver ht q om _ _ h) ?_ ?_
  ·rintro q9 H' n' hc
   refine hc.up (fun p9 he => ?_) (Nat.le_refl _) (fun _ _ _ _ => rfl)
   cases hn : numF t q with
   | none => rw [hn] at he hr; cases he; exact hr
   | some x => rw [hn] at he; cases he
  rintro rr H1 n1 hc
  obtain ⟨s2, v2, he, h2, rfl, hl⟩ := hc.get h
  have hR1 := h2.r
  have hO2 := h2.o
  unfold qdO at hR1
  obtain ⟨x, hn⟩ : ∃ x, numF t q = some x := by
    cases hn : numF t q with
    | none => rw [hn] at he; cases he
    | some x => exact ⟨x, rfl⟩
  rw [hn] at he hr
  cases he
  refine nz ?_
  apply V; clear V K
  refine ns ?_
  exact fin (s2 := { s with far := x.2, nxt := x.1 }) hl hO2 hr (.kl (Kg fs t { s with far := x.2, nxt := x.1 } (ver := v2) hko))
 rw [if_neg (by rw [hb]; simp)] at hr
 refine rg zs [0, 2, 95] ?_
 refine Zb ?_ ?_ <;> intro hb
 ·have k0 : c.toNat = 34 := by have h9 := hb; simp at h9; omega
  rw [if_pos k0] at hr
  refine rk1 zs [] fun K V => ?_
  refine cK func117 (c_query_str fs t s kr ko ver ht q hlt _ _ h) ?_ ?_
  ·rintro q9 H' n' hc
   refine hc.up (fun p9 he => ?_) (Nat.le_refl _) (fun _ _ _ _ => rfl)
   cases hn : strF t q with
   | none => rw [hn] at he hr; cases he; exact hr
   | some x => rw [hn] at he; cases he
  rintro rr H1 n1 hc
  obtain ⟨s2, v2, he, h2, rfl, hl⟩ := hc.get h
  have hR1 := h2.r
  have hO2 := h2.o
  unfold qdO at hR1
  obtain ⟨x, hn⟩ : ∃ x, strF t q = some x := by
    cases hn : strF t q with
    | none => rw [hn] at he; cases he
    | some x => exact ⟨x, rfl⟩
  rw [hn] at he hr
  cases he
  refine nz ?_
  apply V; clear V K
  refine ns ?_
  exact fin (s2 := { s with far := x.2, nxt := x.1 }) hl hO2 hr (.kl (Kg fs t { s with far := x.2, nxt := x.1 } (ver := v2) hko))
 have k0 : ¬ c.toNat = 34 := by have h9 := hb; simp at h9; omega
 rw [if_neg k0] at hr
 refine Za fun K2 hK2 => ?_
 refine rg zs [0, 2, 34, 35] ?_
 refine Zy ?_
 refine Zp (fun T' H' n' => ∃ i : Nat, i ≤ 9 ∧ YA.find? (fun s => s.isPrefixOf (t.drop q)) = (YA.drop i).find? (fun s => s.isPrefixOf (t.drop q)) ∧ T' = tl [(0, .loc kr 0 0 0 []), (2, .int .i64 q), (34, .agg [AV.str [33, 61], AV.str [60, 61], AV.str [62, 61], AV.str [61], AV.str [60], AV.str [62], AV.str [94], AV.str [40], AV.str [41]]), (35, .int .i64 i)] ∧ H' = H ∧ n' = n) (fun T' _ _ => 9 - iv (T' 35)) ?_ ?_
 ·exact ⟨0, om, rfl, rfl, rfl, rfl⟩
 rintro T1 H1 n1 ⟨i, hi, hfd, rfl, rfl, rfl⟩
 refine rg zs [0, 2, 34, 35, 36] ?_
 refine Za fun K3 hK3 => ?_
 refine Zb ?_ ?_ <;> intro hb
 ·have hi9 : i < 9 := ott
  have hnth := nth_signs hi9
  have hsl := signs_len hi9
  rw [signs_drop hi9] at hfd
  have hx : IntKind.i64.wrap ((i : Int) + 1) = ((i + 1 : Nat) : Int) := w1 om
  refine ak ?_
  apply hK3
  refine bk fun K4 hK4 => ?_
  refine Zf zs [0, 2, 5, 34, 35] fun K V => ?_
  try simp only [go_sem, seval, hR1, hszs, wdAV, hszb, hx, Int.toNat_natCast, Option.getD_some, Option.getD_none, hnth]
  repeat (first | (refine And.intro ?_ ?_; · first | exact ⟨om, om, by simp [AV.sz], by simp [AV.isAgg]⟩) | refine peel ?_)
  apply V; clear V K
  refine Zf zs [0, 2, 5, 34, 35, 45] fun K V => ?_
  try simp only [go_sem, seval, hR1, hszs, wdAV, hszb, hx, Int.toNat_natCast, Option.getD_some, Option.getD_none, List.take_length]
  repeat (first | (refine And.intro ?_ ?_; · first | exact ⟨om, om, om⟩) | refine peel ?_)
  refine Zo func118 rfl rfl rfl ((Jt (t.drop q) (YA.getD i []) om _ _)) ?_
  try simp only [go_sem, seval, hR1, hszs, wdAV, hszb, hx, Int.toNat_natCast, Option.getD_some, Option.getD_none, List.take_length]
  repeat refine peel ?_
  apply V; clear V K
  refine Zb ?_ ?_ <;> intro hb
  ·rw [List.find?_cons_of_pos osb] at hfd
   rw [hfd] at hr
   have hx : IntKind.i64.wrap ((q : Int) + ((YA.getD i []).length : Int)) = ((q + (YA.getD i []).length : Nat) : Int) := by rw [w64 om om]; omega
   refine rg zs [] ?_
   refine ar ?_
   exact fin (s2 := { s with far := q + (YA.getD i []).length, nxt := ⟨4, q, YA.getD i [], 0, []⟩ }) (fun _ _ _ => rfl) h.o hr (frzQ _ _ _ _ _ _ _ _ hko)
  rw [List.find?_cons_of_neg (by rw [hb]; simp)] at hfd
  refine ak ?_
  apply hK4
  refine rg1 zs [0, 2, 34, 35] ?_
  exact ⟨⟨i + 1, om, hfd, rfl⟩, om⟩
 have hi9 : i = 9 := otf
 refine ax ?_
 apply hK2
 refine rk1 zs [] fun K V => ?_
 refine Zt (args' := [.int .i64 q]) func80 rfl rfl rfl (Ya q _ _) ?_ ?_
 ·rintro rr H' n' ⟨rfl, rfl, h1⟩
  cases h1
 rintro q9 H' n' ⟨rfl, rfl, h1⟩
 cases h1
 refine QdE.err ?_ (Nat.le_refl _) (fun k _ _ _ => rfl)
 subst hi9
 rw [hr, hfd]; rfl
theorem Yj {ε α β : Type} {f : α → β} {x : Except ε α} {p : ε} (h : x.map f = .error p) : x = .error p := by
 cases x with
 | error e => cases h; rfl
 | ok a => cases h
theorem bind_err {ε α β : Type} {f : α → Except ε β} {x : Except ε α} {p : ε} (h : x = .error p) : x.bind f = .error p := by rw [h]; rfl
theorem QdK.got {fs : List Fml} {t : List UInt8} {kr ko : Nat} {H H' : Heap} {n n' : Nat} {r : Except Nat (AV × Qst)} {v : AV} (hk : QdK fs t kr ko H n r (.val v) H' n') (h1 : kr < n) (h2 : ko < n) (h3 : kr ≠ ko) : ∃ s ver, r = .ok (v, s) ∧ QdH fs t kr ko s ver H' n ∧ n = n' ∧ ∀ k, k ≠ kr → k ≠ ko → H' k = H k := by
 obtain ⟨s, ver, h1', rfl, rfl⟩ := hk.val
 refine ⟨s, ver, h1', ⟨h1, h2, h3, Pk _ _ _, ?_⟩, rfl, fun k e1 e2 => ?_⟩ <;> unfold qst
 ·rw [Pi _ _ h3.symm, Pk]
 ·rw [Pi _ _ e1, Pi _ _ e2]
theorem NQb0.eqs {P Q : Prop} (g : Imp P Q := by (try simp only [go_sem, seval, hR1, hO1, hszs, hszb, hB, wdAV, g1, g2, g3, g4, g5, g6, g7, g8, g9, f1, f2, f3, e1, List.length_map]); exact Pm) : Imp P Q := g
theorem NQb0.sd {P : Prop} (g : P := by first | exact ⟨rfl, by (simp [AV.sz, AV.szs, AV.memOK, wdAV, bys]; first | done | fail)⟩ | exact ⟨om, .inr trivial, om, om⟩ | fail) : P := g
open NQb0 NZ in
theorem Yo (fs : List Fml) (t : List UInt8) (s : Qst) (kr ko ver : Nat) (ht : t.length ≤ 512) (hf : s.far ≤ t.length) (hl : s.out.length ≤ 1000000) (H : Heap) (n : Nat) (h : QdH fs t kr ko s ver H n) :
   Zn prog 121 [.loc kr 0 0 0 []] H n (QdK fs t kr ko H n ((Yw t s).map fun x => (wdAV x.1, x.2))) := by
 have hR1 := h.r
 unfold qdO at hR1
 have hO1 := h.o
 unfold outO at hO1
 have hk := h.lr
 have hko := h.lo
 have hne := h.ne
 have hszs : (Zi fs).sz = 1 := rfl
 have hszb : ∀ b, (bys b).sz = 1 := fun _ => rfl
 have g1 : (kr = n) = False := oz
 have g2 : (kr = n + 1) = False := oz
 have g3 : (ko = n) = False := oz
 have g4 : (ko = n + 1) = False := oz
 have g5 : (n = n + 1) = False := osi
 have g6 : (n + 1 = n) = False := osi
 have g7 : (kr = ko) = False := oz
 have g8 : (ko = kr) = False := oz
 have g9 : (n = kr) = False := oz
 have f1 : (n + 1 = kr) = False := oz
 have f2 : (n = ko) = False := oz
 have f3 : (n + 1 = ko) = False := oz
 have e1 : List.take s.out.length (List.map wdAV s.out) = List.map wdAV s.out := List.take_of_length_le osi
 have hB := hszs
 obtain ⟨r, hr⟩ : ∃ r, r = ((Yw t s).map fun x => (wdAV x.1, x.2)) := ⟨_, rfl⟩
 rw [← hr]
 unfold Yw at hr
 refine QdK.fin hk hko hne ?_
 refine fw func121 ntmps121 results121 ?_
 refine rg zs [0, 2] ?_
 refine rg zs [0, 2, 3] ?_
 refine dx zs [0, 2, 3] [.m, .m, .q, .q, .q, .q, .q, .w [], .q, .q, .w []] [0, 1, 2, 3, 4, 5, 6, 7, 8, 9, 10] [0, 1, 2, 3, 4, 5, 6, 7, 8, 9, 10] fun K V => ?_
 apply V; clear V K
 refine rk zs [2, 3] fun K V => ?_
 refine Zt (args' := [.loc kr 0 0 0 []]) func78 rfl rfl rfl (Kr fs t { s with out := s.out ++ [s.nxt] } kr ko (ver + 1) ht hf _ _ ?_) ?_ ?_
 ·exact ⟨om, om, hne, by rw [Pk]; simp only [qdO, List.length_append, List.length_singleton]; rfl, by rw [Pi _ _ hne.symm, Pk]; simp only [outO, List.map_append]; rfl⟩
 rotate_left
 ·rintro q9 H' n' hc
  refine hc.up (fun p9 he => ?_) om (fun k e1 e2 e3 => by simp only [Pj]; (repeat rw [if_neg om]))
  rw [Yj he] at hr; exact hr
 rintro rr H1 n1 hc
 obtain ⟨s2, v2, he, h2, rfl, hl2⟩ := hc.got om om hne
 have hB : H1 (n + 1) = some (.arr 0 5 [wdAV s.nxt]) := (hl2 _ om om).trans (by rw [Pi _ _ om, Pi _ _ om, Pk]; rfl)
 have hR1 : H1 n = some (.arr 0 5 [.agg [.int .i64 0, .int .i64 0, .str [], .int .i64 0, .nilsl]]) := (hl2 _ om om).trans (by rw [Pi _ _ om, Pi _ _ om, Pi _ _ om, Pk])
 obtain ⟨x, hx, hy⟩ := map_ok he
 cases hy
 rw [hx] at hr
 refine nz ?_
 apply V; clear V K
 refine rg zs [2] ?_
 refine ar ?_
 exact QdE.ok (s := s2) hr (h2.on (Pi _ _ om) (Pi _ _ om) (Nat.le_refl _)) hko (fun k e1 e2 e3 => (Pi _ _ om).trans ((hl2 k e2 e3).trans (by simp only [Pj]; (repeat rw [if_neg om])))) (.kl (Mj _ _))
theorem NQc0.eqs {P Q : Prop} (g : Imp P Q := by (try simp only [go_sem, seval, hR1, hszs, hszb, wdAV, e0]); exact Pm) : Imp P Q := g
open NQc0 NY in
theorem Kt (fs : List Fml) (t : List UInt8) (s : Qst) (kr ko ver : Nat) (ht : t.length ≤ 512) (hf : s.far ≤ t.length) (hl : s.out.length ≤ 1000000) (hd : s.deep ≤ 1000) (H : Heap) (n : Nat) (h : QdH fs t kr ko s ver H n) :
   Zn prog 153 [.loc kr 0 0 0 []] H n (QdK fs t kr ko H n ((Qx t s).map fun x => (.tup [], x))) := by
 have hR1 := h.r
 unfold qdO at hR1
 have hk := h.lr
 have hko := h.lo
 have hne := h.ne
 have hszs : (Zi fs).sz = 1 := rfl
 have hszb : ∀ b, (bys b).sz = 1 := fun _ => rfl
 have e0 : IntKind.i64.wrap ((s.deep : Int) + 1) = ((s.deep + 1 : Nat) : Int) := by rw [w64 om om]; omega
 obtain ⟨r, hr⟩ : ∃ r, r = ((Qx t s).map fun x => ((.tup [] : AV), x)) := ⟨_, rfl⟩
 rw [← hr]
 unfold Qx at hr
 refine QdK.fin hk hko hne ?_
 refine fw func153 ntmps153 results153 ?_
 refine rg zs [0] ?_
 refine Za fun K1 hK1 => ?_
 refine rg zs [0, 13] ?_
 refine Zb ?_ ?_ <;> intro hb
 ·have hb1 : 16 < s.deep + 1 := ott
  rw [if_pos hb1] at hr
  refine rk1 zs [0] fun K V => ?_
  refine Zt (args' := [.int .i64 s.nxt.pos]) func80 rfl rfl rfl (Ya s.nxt.pos _ _) ?_ ?_
  ·rintro rr H' n' ⟨rfl, rfl, h1⟩
   cases h1
  rintro q9 H' n' ⟨rfl, rfl, h1⟩
  cases h1
  exact QdE.err hr (Nat.le_refl _) (fun k _ e2 _ => Pi _ _ e2)
 have hb1 : ¬ 16 < s.deep + 1 := otf
 rw [if_neg hb1] at hr
 refine ak ?_
 apply hK1
 refine rk1 zs [] fun K V => ?_
 refine Zt (args' := [.loc kr 0 0 0 []]) func121 rfl rfl rfl (Yo fs t { s with deep := s.deep + 1 } kr ko ver ht hf hl _ _ ?_) ?_ ?_
 ·exact ⟨hk, hko, hne, Pk _ _ _, by rw [Pi _ _ hne.symm]; exact h.o⟩
 rotate_left
 ·rintro q9 H' n' hc
  exact hc.up (fun p9 he => by rw [Yj he] at hr; exact hr) (Nat.le_refl _) (fun k _ e2 _ => Pi _ _ e2)
 rintro rr H1 n1 hc
 obtain ⟨s2, v2, he, h2, rfl, hl2⟩ := hc.got hk hko hne
 obtain ⟨x, hx, hy⟩ := map_ok he
 cases hy
 rw [hx] at hr
 refine nz ?_
 apply V; clear V K
 refine ns ?_
 exact QdE.ok hr h2 hko (fun k e1 e2 e3 => (hl2 k e2 e3).trans (Pi _ _ e2)) (.tup .nil)
theorem NQc1.eqs {P Q : Prop} (g : Imp P Q := by (try simp only [go_sem, seval, hR1, hszs, hszb, wdAV, g1]); exact Pm) : Imp P Q := g
open NQc1 NY in
theorem Kq (fs : List Fml) (t : List UInt8) (s : Qst) (kr ko ver : Nat) (ht : t.length ≤ 512) (hf : s.far ≤ t.length) (hl : s.out.length ≤ 1000000) (w : Nat) (H : Heap) (n : Nat) (h : QdH fs t kr ko s ver H n) :
   Zn prog 161 [.loc kr 0 0 0 [], .int .i64 w] H n (QdK fs t kr ko H n ((JV t w s).map fun x => (wdAV x.1, x.2))) := by
 have hR1 := h.r
 unfold qdO at hR1
 have hk := h.lr
 have hko := h.lo
 have hne := h.ne
 have hszs : (Zi fs).sz = 1 := rfl
 have hszb : ∀ b, (bys b).sz = 1 := fun _ => rfl
 have g1 : (kr = n) = False := oz
 obtain ⟨r, hr⟩ : ∃ r, r = ((JV t w s).map fun x => (wdAV x.1, x.2)) := ⟨_, rfl⟩
 rw [← hr]
 unfold JV at hr
 refine QdK.fin hk hko hne ?_
 refine fw func161 ntmps161 results161 ?_
 refine rg zs [0, 1, 4] ?_
 refine Za fun K1 hK1 => ?_
 refine rg zs [0, 4, 11] ?_
 refine Zb ?_ ?_ <;> intro hb
 ·have hb1 : ¬ s.nxt.kind = w := by have h9 := hb; simp at h9; omega
  rw [if_neg hb1] at hr
  refine rk1 zs [0, 4] fun K V => ?_
  refine Zt (args' := [.int .i64 s.nxt.pos]) func80 rfl rfl rfl (Ya s.nxt.pos _ _) ?_ ?_
  ·rintro rr H' n' ⟨rfl, rfl, h1⟩
   cases h1
  rintro q9 H' n' ⟨rfl, rfl, h1⟩
  cases h1
  exact QdE.err hr om (fun k _ e2 _ => Pi _ _ om)
 have hb1 : s.nxt.kind = w := by have h9 := hb; simp at h9; omega
 rw [if_pos hb1] at hr
 refine ak ?_
 apply hK1
 refine rk zs [4] fun K V => ?_
 refine Zt (args' := [.loc kr 0 0 0 []]) func121 rfl rfl rfl (Yo fs t s kr ko ver ht hf hl _ _ ?_) ?_ ?_
 ·exact h.low (fun k hk9 => Pi _ _ om) om
 rotate_left
 ·rintro q9 H' n' hc
  exact hc.up (fun p9 he => by rw [Yj he] at hr; exact hr) om (fun k _ e2 _ => Pi _ _ om)
 rintro rr H1 n1 hc
 obtain ⟨s2, v2, he, h2, rfl, hl2⟩ := hc.got om om hne
 have hR1 : H1 n = some (.arr 0 5 [.agg [.int .i64 0, .int .i64 0, .str [], .int .i64 0, .nilsl]]) := (hl2 _ om om).trans (Pk _ _ _)
 obtain ⟨x, hx, hy⟩ := map_ok he
 cases hy
 rw [hx] at hr
 refine nz ?_
 apply V; clear V K
 refine ar ?_
 exact QdE.ok (v' := wdAV x.1) hr (h2.on (Pi _ _ om) (Pi _ _ om) (Nat.le_refl _)) hko (fun k e1 e2 e3 => (Pi _ _ om).trans ((hl2 k e2 e3).trans (Pi _ _ om))) (.kl (Mj _ _))
theorem NQc2.eqs {P Q : Prop} (g : Imp P Q := by (try simp only [go_sem, seval, hR1, hszs, hszb, wdAV, hx, hnth, List.length_map, Int.toNat_natCast]); exact Pm) : Imp P Q := g
open NQc2 NY in
theorem U7 (fs : List Fml) (t : List UInt8) (s : Qst) (kr ko ver : Nat) (ht : t.length ≤ 512) (hf : s.far ≤ t.length) (hl : s.out.length ≤ 1000000) (ws : List (List UInt8)) (hws : ws.length ≤ 100) (H : Heap) (n : Nat) (h : QdH fs t kr ko s ver H n) :
   Zn prog 159 [.loc kr 0 0 0 [], .sl 1 (ws.map .str)] H n (QdK fs t kr ko H n ((Jv t ws s).map fun x => (.str x.1, x.2))) := by
 have hR1 := h.r
 unfold qdO at hR1
 have hk := h.lr
 have hko := h.lo
 have hne := h.ne
 have hszs : (Zi fs).sz = 1 := rfl
 have hszb : ∀ b, (bys b).sz = 1 := fun _ => rfl
 have hx := hszs
 have hnth := hszs
 obtain ⟨r, hr⟩ : ∃ r, r = ((Jv t ws s).map fun x => (AV.str x.1, x.2)) := ⟨_, rfl⟩
 rw [← hr]
 unfold Jv at hr
 refine QdK.fin hk hko hne ?_
 refine fw func159 ntmps159 results159 ?_
 refine rg zs [0, 1] ?_
 refine Za fun K1 hK1 => ?_
 refine rg zs [0, 7, 8, 9] ?_
 refine Zy ?_
 refine Zp (fun T' H' n' => ∃ i : Nat, i ≤ ws.length ∧ (∀ j, j < i → ¬ (s.nxt.kind = 4 ∧ s.nxt.text = ws.getD j [])) ∧ T' = tl [(0, .loc kr 0 0 0 []), (7, .sl 1 (ws.map .str)), (8, .int .i64 ws.length), (9, .int .i64 i)] ∧ H' = H ∧ n' = n) (fun T' _ _ => ws.length - iv (T' 9)) ?_ ?_
 ·exact ⟨0, om, fun j hj => absurd hj (Nat.not_lt_zero _), rfl, rfl, rfl⟩
 rintro T1 H1 n1 ⟨i, hi, hno, rfl, rfl, rfl⟩
 refine rg zs [0, 7, 8, 9, 10] ?_
 refine Za fun K2 hK2 => ?_
 refine Zb ?_ ?_ <;> intro hb
 ·have hlt : i < ws.length := ott
  have hnth : nth (ws.map AV.str) i = AV.str (ws.getD i []) := Zx AV.str ws _ hlt
  have hx : IntKind.i64.wrap ((i : Int) + 1) = ((i + 1 : Nat) : Int) := w1 om
  refine ak ?_
  apply hK2
  refine bk fun K3 hK3 => ?_
  refine rg zs [0, 6, 7, 8, 9] ?_
  refine rg zs [0, 7, 8, 9, 27] ?_
  refine Zb ?_ ?_ <;> intro hb
  ·have hb1 : s.nxt.kind = 4 ∧ s.nxt.text = ws.getD i [] := by have h9 := hb; simp at h9; exact ⟨om, by simpa using h9.2⟩
   rw [if_pos ⟨hb1.1, by rw [hb1.2]; simp [List.getD, hlt]⟩] at hr
   refine rk zs [4] fun K V => ?_
   refine cK func121 (Yo fs t s kr ko ver ht hf hl _ _ h) ?_ ?_
   ·rintro q9 H' n' hc
    exact hc.up (fun p9 he => by rw [Yj he] at hr; exact hr) (Nat.le_refl _) (fun k _ _ _ => rfl)
   rintro rr H1 n1 hc
   obtain ⟨s2, v2, he, h2, rfl, hl2⟩ := hc.got hk hko hne
   obtain ⟨x, hx, hy⟩ := map_ok he
   cases hy
   rw [hx] at hr
   refine nz ?_
   apply V; clear V K
   refine ar ?_
   exact QdE.ok hr h2 hko (fun k e1 e2 e3 => hl2 k e2 e3) (.kl trivial)
  have hb1 : ¬ (s.nxt.kind = 4 ∧ s.nxt.text = ws.getD i []) := by rintro ⟨e1, e2⟩; rw [e1, e2] at hb; simp at hb
  refine ak ?_
  apply hK3
  refine rg1 zs [0, 7, 8, 9] ?_
  exact ⟨⟨i + 1, om, fun j hj => by rcases Nat.lt_or_ge j i with q | q; exact hno j q; (obtain rfl : j = i := om); exact hb1, rfl⟩, om⟩
 have hge : i = ws.length := otf
 refine ax ?_
 apply hK1
 refine rk zs [] fun K V => ?_
 refine Zt (args' := [.int .i64 s.nxt.pos]) func80 rfl rfl rfl (Ya s.nxt.pos _ _) ?_ ?_
 ·rintro rr H' n' ⟨rfl, rfl, h1⟩
  cases h1
 rintro q9 H' n' ⟨rfl, rfl, h1⟩
 cases h1
 have hno2 : ¬ (s.nxt.kind = 4 ∧ s.nxt.text ∈ ws) := by
   rintro ⟨e1, e2⟩
   obtain ⟨j, hj, he⟩ := List.mem_iff_getElem.1 e2
   exact hno j om ⟨e1, by simp [List.getD, hj, he]⟩
 rw [if_neg hno2] at hr
 exact QdE.err hr (Nat.le_refl _) (fun k _ _ _ => rfl)
def Yc : Tst → AV
 | .or a b => .fn (.func 122) [] [.rp (Yc a), .rp (Yc b)]
 | .and a b => .fn (.func 143) [] [.rp (Yc a), .rp (Yc b)]
 | .not a => .fn (.func 154) [] [.rp (Yc a)]
 | .fam n sign => .fn (.func 160) [] [.rp (.int .i64 n), .rp (.str sign)]
 | .cmp qual sign s => .fn (.func 162) [] [.rp (.bool qual), .rp (.str sign), .rp (bys s)]
 | .ts sign n => .fn (.func 164) [] [.rp (.str sign), .rp (.int .i64 n)]
theorem Xb (n : Nat) : ∀ a : Tst, (Yc a).kl n
 | .or a b => ⟨trivial, Xb n a, Xb n b, trivial⟩
 | .and a b => ⟨trivial, Xb n a, Xb n b, trivial⟩
 | .not a => ⟨trivial, Xb n a, trivial⟩
 | .fam _ _ => ⟨trivial, trivial, trivial, trivial⟩
 | .cmp _ _ s => ⟨trivial, trivial, trivial, Z0 _ _, trivial⟩
 | .ts _ _ => ⟨trivial, trivial, trivial, trivial⟩
theorem WU {H : Heap} {n k e : Nat} {a b : AV} (hk : H k = some (.arr 0 e [a])) (hn : n ≤ k) (hf : Frz H n a b) : Frz H n (.loc k 0 0 0 []) (.rp b) := .loc hk hn osi (by simp [AV.pathOff]) trivial hf
theorem callQ_mkQ {P : Program} {f : FuncId} {fn : Func} {first captured args args' : List AV} {H : Heap} {r : AV}
   (hf : P.funcs[f]? = some fn) (hb : fn.body.isSome = true) (hn : (fn.name == "runtime.NumGoroutine") = false) (ha : first ++ args ++ captured = args') (h : ∀ n, Ret P f args' H n r H n) : KE P (.fn (.func f) first captured) args H r :=
 fun n => Zo hf hb hn ha (h n) ⟨rfl, rfl, rfl⟩
theorem NQd0.eqs {P Q : Prop} (g : Imp P Q := by (try simp only [go_sem, seval, hR1, hszs, hszb, wdAV, g1, g2, g3, g4, hB1, hB2]); exact Pm) : Imp P Q := g
theorem NQd0.sd {P : Prop} (g : P := by first | exact fun d hd => by cases hd; exact callQ_mkQ func102 rfl rfl rfl (fun n => Ur fs _ hfs _ _) | fail) : P := g
set_option maxHeartbeats 1600000 in
open NQd0 NZ in
theorem c_query_test (fs : List Fml) (hfs : fs.length ≤ 1048576) (t : List UInt8) (s : Qst) (kr ko ver : Nat) (ht : t.length ≤ 512) (hI : QI t s) (H : Heap) (n : Nat) (h : QdH fs t kr ko s ver H n) :
   Zn prog 155 [.loc kr 0 0 0 []] H n (QdK fs t kr ko H n ((Ju fs t s).map fun x => (Yc x.1, x.2))) := by
 have hR := h.r
 have hR1 := hR
 unfold qdO at hR1
 have hk := h.lr
 have hko := h.lo
 have hne := h.ne
 have hszs : (Zi fs).sz = 1 := rfl
 have hszb : ∀ b, (bys b).sz = 1 := fun _ => rfl
 have g1 : (kr = n) = False := oz
 have g2 : (kr = n + 1) = False := oz
 have g3 : (n = n + 1) = False := osi
 have g4 : (n + 1 = n) = False := osi
 have hB1 := hszs
 have hB2 := hszs
 obtain ⟨r, hr⟩ : ∃ r, r = ((Ju fs t s).map fun x => (Yc x.1, x.2)) := ⟨_, rfl⟩
 rw [← hr]
 unfold Ju at hr
 refine QdK.fin hk hko hne ?_
 refine fw func155 ntmps155 results155 ?_
 refine rg zs [0] ?_
 refine bk fun K1 hK1 => ?_
 refine rc zs [0, 10] func120 ((Y8 fs t s kr ko ver wFam _ _ hR)) ?_
 refine Zb ?_ ?_ <;> intro hb
 ·simp only [if_pos hb] at hr
  refine rk zs [0] fun K V => ?_
  refine Zt (args' := [.loc kr 0 0 0 []]) func121 rfl rfl rfl (Yo fs t s kr ko ver ht hI.far (hI.outs ht) _ _ ?_) ?_ ?_
  ·exact h
  rotate_left
  ·rintro q9 H' n' hc
   exact hc.up (fun p9 he => by rw [Yj he] at hr; exact hr) om (fun k e1 e2 e3 => by rfl)
  rintro rr H1 n9 hc
  obtain ⟨_, v1, he, h1, rfl, hl1⟩ := hc.got om om hne
  obtain ⟨x1, hx1, hy⟩ := map_ok he
  cases hy
  have hI1 := (YC ht hI (YG hb) (w := x1.1) (s' := x1.2) hx1).1.1
  simp only [hx1, ZU] at hr
  have hR1 := h1.r
  unfold qdO at hR1
  refine nz ?_
  apply V; clear V K
  refine rk zs [0, 3] fun K V => ?_
  refine Zt (args' := [.loc kr 0 0 0 [], .sl 1 (sEq.map .str)]) func159 rfl rfl rfl (U7 fs t x1.2 kr ko v1 ht hI1.far (hI1.outs ht) sEq odc _ _ ?_) ?_ ?_
  ·exact h1
  rotate_left
  ·rintro q9 H' n' hc
   exact hc.up (fun p9 he => by rw [Yj he] at hr; exact hr) om (fun k e1 e2 e3 => by exact hl1 k e2 e3)
  rintro rr H2 n9 hc
  obtain ⟨_, v2, he, h2, rfl, hl2⟩ := hc.got om om hne
  obtain ⟨x2, hx2, hy⟩ := map_ok he
  cases hy
  have hI2 := (Qq ht hI1 (w := x2.1) (s' := x2.2) hx2).1
  simp only [hx2, ZU] at hr
  have hR1 := h2.r
  unfold qdO at hR1
  refine nz ?_
  apply V; clear V K
  refine dx zs [0, 3, 4] [.m, .q, .q, .q, .m, .q, .q, .q, .q, .c, .w [1, 2, 3, 5, 6, 7, 8, 9], .w []] [0, 1, 2, 3, 4, 5, 6, 7, 8, 9, 10, 11] [0, 1, 2, 3, 4, 5, 6, 7, 8, 9, 10, 11] fun K V => ?_
  refine cq func102 (fun _ n => (Ur fs x2.2.nxt.text hfs _ _)) ?_
  apply V; clear V K
  refine Za fun K2 hK2 => ?_
  refine rg zs [0, 3, 4, 37] ?_
  refine Zb ?_ ?_ <;> intro hb
  ·have hbad : x2.2.nxt.kind ≠ 1 ∨ famF fs x2.2.nxt.text < 0 := by
     unfold famF
     by_cases e : x2.2.nxt.kind = 1
     ·right; rw [e] at hb; exact of_decide_eq_true osb
     ·exact .inl e
   rw [if_pos hbad, er_map] at hr
   refine rk1 zs [0, 3, 4] fun K V => ?_
   refine Zt (args' := [.int .i64 x2.2.nxt.pos]) func80 rfl rfl rfl (Ya x2.2.nxt.pos _ _) ?_ ?_
   ·rintro rr H' n' ⟨rfl, rfl, h1⟩
    cases h1
   rintro q9 H' n' ⟨rfl, rfl, h1⟩
   cases h1
   exact QdE.err hr om (fun k e1 e2 e3 => by simp only [Pj]; (repeat rw [if_neg om]); rw [hl2 k e2 e3, hl1 k e2 e3])
  have hok : ¬ (x2.2.nxt.kind ≠ 1 ∨ famF fs x2.2.nxt.text < 0) := by
    rintro (e | e)
    ·have e9 : ((x2.2.nxt.kind : Int) != 1) = true := oz
     rw [e9] at hb; cases hb
    ·unfold famF at e; rw [decide_eq_true e] at hb; cases e9 : ((x2.2.nxt.kind : Int) != 1) <;> rw [e9] at hb <;> cases hb
  rw [if_neg hok] at hr
  refine ak ?_
  apply hK2
  refine rk zs [3, 4] fun K V => ?_
  refine Zt (args' := [.loc kr 0 0 0 []]) func121 rfl rfl rfl (Yo fs t x2.2 kr ko v2 ht hI2.far (hI2.outs ht) _ _ ?_) ?_ ?_
  ·exact h2.low (fun k hk9 => oh) om
  rotate_left
  ·rintro q9 H' n' hc
   exact hc.up (fun p9 he => by rw [Yj he] at hr; exact hr) om (fun k e1 e2 e3 => by simp only [Pj]; (repeat rw [if_neg om]); rw [hl2 k e2 e3, hl1 k e2 e3])
  rintro rr H3 n9 hc
  obtain ⟨_, v3, he, h3, rfl, hl3⟩ := hc.got om om hne
  obtain ⟨x3, hx3, hy⟩ := map_ok he
  cases hy
  have hI3 := (YC ht hI2 om (w := x3.1) (s' := x3.2) hx3).1.1
  simp only [hx3, WH] at hr
  have hR1 := h3.r
  unfold qdO at hR1
  have hB1 : H3 n = some (.arr 0 1 [.str x2.1]) := (hl3 _ om om).trans (by simp only [Pj]; (repeat rw [if_neg om]); simp)
  have hB2 : H3 (n + 1) = some (.arr 0 1 [.int .i64 (famF fs x2.2.nxt.text)]) := (hl3 _ om om).trans (by simp only [Pj]; (repeat rw [if_neg om]); simp <;> rfl)
  refine nz ?_
  apply V; clear V K
  refine rg zs [2] ?_
  refine ar ?_
  exact QdE.ok hr h3 hko (fun k e1 e2 e3 => (hl3 k e2 e3).trans (by simp only [Pj]; (repeat rw [if_neg om]); rw [hl2 k e2 e3, hl1 k e2 e3])) (.fn .nil (.cons (WU hB2 om (.kl trivial)) (.cons (WU hB1 om (.kl trivial)) .nil)))
 rw [if_neg (by rw [hb]; simp)] at hr
 refine ZQ [0, 47] (fun T' H' n' => T' = tl [(0, .loc kr 0 0 0 []), (47, .bool (isF s Xk || isF s YW))] ∧ H = H' ∧ n = n') ?_ ?_
 ·refine rc zs [0, 47] func120 ((Y8 fs t s kr ko ver Xk _ _ hR)) ?_
  refine Zb ?_ ?_ <;> intro hb
  ·try (have hq : isF s Xk = true ∨ isF s YW = true := osb)
   try rw [if_pos hq] at hr
   refine ak ?_
   refine ns ?_
   rw [hb]; first | rfl | (cases isF s Xk <;> cases isF s YW <;> first | rfl | contradiction)
  try rw [if_neg osb] at hr
  refine rc1 zs [0, 47] func120 ((Y8 fs t s kr ko ver YW _ _ hR)) ?_
  refine ns ?_
  rw [hb]; first | rfl | (cases isF s Xk <;> cases isF s YW <;> first | rfl | contradiction)
 rintro T1 H1 n1 ⟨rfl, rfl, rfl⟩
 refine Zb ?_ ?_ <;> intro hb
 ·try (have hq : isF s Xk = true ∨ isF s YW = true := osb)
  try rw [if_pos hq] at hr
  refine rk zs [0, 5] fun K V => ?_
  refine Zt (args' := [.loc kr 0 0 0 []]) func121 rfl rfl rfl (Yo fs t s kr ko ver ht hI.far (hI.outs ht) _ _ ?_) ?_ ?_
  ·exact h
  rotate_left
  ·rintro q9 H' n' hc
   exact hc.up (fun p9 he => by rw [Yj he] at hr; exact hr) om (fun k e1 e2 e3 => by rfl)
  rintro rr H1 n9 hc
  obtain ⟨_, v1, he, h1, rfl, hl1⟩ := hc.got om om hne
  obtain ⟨x1, hx1, hy⟩ := map_ok he
  cases hy
  have hI1 := (YC ht hI (by rcases hq with e | e <;> exact YG e) (w := x1.1) (s' := x1.2) hx1).1.1
  simp only [hx1, ZU] at hr
  have hR1 := h1.r
  unfold qdO at hR1
  refine nz ?_
  apply V; clear V K
  refine rk zs [0, 5, 6] fun K V => ?_
  refine Zt (args' := [.loc kr 0 0 0 [], .sl 1 (sAll.map .str)]) func159 rfl rfl rfl (U7 fs t x1.2 kr ko v1 ht hI1.far (hI1.outs ht) sAll odc _ _ ?_) ?_ ?_
  ·exact h1.low (fun k hk9 => oh) om
  rotate_left
  ·rintro q9 H' n' hc
   exact hc.up (fun p9 he => by rw [Yj he] at hr; exact hr) om (fun k e1 e2 e3 => by rw [Pi _ _ om]; exact hl1 k e2 e3)
  rintro rr H2 n9 hc
  obtain ⟨_, v2, he, h2, rfl, hl2⟩ := hc.got om om hne
  obtain ⟨x2, hx2, hy⟩ := map_ok he
  cases hy
  have hI2 := (Qq ht hI1 (w := x2.1) (s' := x2.2) hx2).1
  simp only [hx2, ZU] at hr
  have hR1 := h2.r
  unfold qdO at hR1
  have hB1 : H2 n = some (.arr 0 1 [.bool (x1.1.text == Xk)]) := (hl2 _ om om).trans (by simp only [Pj]; (repeat rw [if_neg om]); simp <;> rfl)
  refine nz ?_
  apply V; clear V K
  refine rk zs [5, 6, 7] fun K V => ?_
  refine Zt (args' := [.loc kr 0 0 0 [], .int .i64 ((3 : Nat) : Int)]) func161 rfl rfl rfl (Kq fs t x2.2 kr ko v2 ht hI2.far (hI2.outs ht) 3 _ _ ?_) ?_ ?_
  ·exact h2.low (fun k hk9 => oh) om
  rotate_left
  ·rintro q9 H' n' hc
   exact hc.up (fun p9 he => by rw [Yj he] at hr; exact hr) om (fun k e1 e2 e3 => by rw [Pi _ _ om, hl2 k e2 e3, Pi _ _ om]; exact hl1 k e2 e3)
  rintro rr H3 n9 hc
  obtain ⟨_, v3, he, h3, rfl, hl3⟩ := hc.got om om hne
  obtain ⟨x3, hx3, hy⟩ := map_ok he
  cases hy
  have hI3 := (Mt ht odc hI2 (w := x3.1) (s' := x3.2) hx3).1
  simp only [hx3, WH] at hr
  have hR1 := h3.r
  unfold qdO at hR1
  have hB2 : H3 (n + 1) = some (.arr 0 1 [.str x2.1]) := (hl3 _ om om).trans (by simp only [Pj]; (repeat rw [if_neg om]); simp)
  have hB1 := (hl3 n om om).trans ((Pi _ _ om).trans hB1)
  refine nz ?_
  apply V; clear V K
  refine rg zs [2] ?_
  refine ar ?_
  exact QdE.ok hr (h3.on (Pi _ _ om) (Pi _ _ om) (Nat.le_refl _)) hko (fun k e1 e2 e3 => by rw [Pi _ _ om, hl3 k e2 e3, Pi _ _ om, hl2 k e2 e3, Pi _ _ om]; exact hl1 k e2 e3) (.fn .nil (.cons (WU ((Pi _ _ om).trans hB1) om (.kl trivial)) (.cons (WU ((Pi _ _ om).trans hB2) om (.kl trivial)) (.cons (WU (Pk _ _ _) om (.kl (Z0 _ _))) .nil))))
 try rw [if_neg osb] at hr
 refine rc zs [0, 63] func120 ((Y8 fs t s kr ko ver wTs _ _ hR)) ?_
 refine Zb ?_ ?_ <;> intro hb
 ·rw [if_pos hb] at hr
  refine rk zs [0] fun K V => ?_
  refine Zt (args' := [.loc kr 0 0 0 []]) func121 rfl rfl rfl (Yo fs t s kr ko ver ht hI.far (hI.outs ht) _ _ ?_) ?_ ?_
  ·exact h
  rotate_left
  ·rintro q9 H' n' hc
   exact hc.up (fun p9 he => by rw [Yj he] at hr; exact hr) om (fun k e1 e2 e3 => by rfl)
  rintro rr H1 n9 hc
  obtain ⟨_, v1, he, h1, rfl, hl1⟩ := hc.got om om hne
  obtain ⟨x1, hx1, hy⟩ := map_ok he
  cases hy
  have hI1 := (YC ht hI (YG hb) (w := x1.1) (s' := x1.2) hx1).1.1
  simp only [hx1, ZU] at hr
  have hR1 := h1.r
  unfold qdO at hR1
  refine nz ?_
  apply V; clear V K
  refine rk zs [0, 8] fun K V => ?_
  refine Zt (args' := [.loc kr 0 0 0 [], .sl 1 (sCmp.map .str)]) func159 rfl rfl rfl (U7 fs t x1.2 kr ko v1 ht hI1.far (hI1.outs ht) sCmp odc _ _ ?_) ?_ ?_
  ·exact h1
  rotate_left
  ·rintro q9 H' n' hc
   exact hc.up (fun p9 he => by rw [Yj he] at hr; exact hr) om (fun k e1 e2 e3 => by exact hl1 k e2 e3)
  rintro rr H2 n9 hc
  obtain ⟨_, v2, he, h2, rfl, hl2⟩ := hc.got om om hne
  obtain ⟨x2, hx2, hy⟩ := map_ok he
  cases hy
  have hI2 := (Qq ht hI1 (w := x2.1) (s' := x2.2) hx2).1
  simp only [hx2, ZU] at hr
  have hR1 := h2.r
  unfold qdO at hR1
  refine nz ?_
  apply V; clear V K
  refine rk zs [8, 9] fun K V => ?_
  refine Zt (args' := [.loc kr 0 0 0 [], .int .i64 ((2 : Nat) : Int)]) func161 rfl rfl rfl (Kq fs t x2.2 kr ko v2 ht hI2.far (hI2.outs ht) 2 _ _ ?_) ?_ ?_
  ·exact h2.low (fun k hk9 => oh) om
  rotate_left
  ·rintro q9 H' n' hc
   exact hc.up (fun p9 he => by rw [Yj he] at hr; exact hr) om (fun k e1 e2 e3 => by rw [Pi _ _ om, hl2 k e2 e3]; exact hl1 k e2 e3)
  rintro rr H3 n9 hc
  obtain ⟨_, v3, he, h3, rfl, hl3⟩ := hc.got om om hne
  obtain ⟨x3, hx3, hy⟩ := map_ok he
  cases hy
  have hI3 := (Mt ht odc hI2 (w := x3.1) (s' := x3.2) hx3).1
  simp only [hx3, WH] at hr
  have hR1 := h3.r
  unfold qdO at hR1
  have hB1 : H3 n = some (.arr 0 1 [.str x2.1]) := (hl3 _ om om).trans (by simp only [Pj]; (repeat rw [if_neg om]); simp)
  refine nz ?_
  apply V; clear V K
  refine rg zs [2] ?_
  refine ar ?_
  exact QdE.ok hr (h3.on (Pi _ _ om) (Pi _ _ om) (Nat.le_refl _)) hko (fun k e1 e2 e3 => by rw [Pi _ _ om, hl3 k e2 e3, Pi _ _ om, hl2 k e2 e3]; exact hl1 k e2 e3) (.fn .nil (.cons (WU ((Pi _ _ om).trans hB1) om (.kl trivial)) (.cons (WU (Pk _ _ _) om (.kl trivial)) .nil)))
 rw [if_neg (by rw [hb]; simp), er_map] at hr
 refine ak ?_
 apply hK1
 refine rk zs [] fun K V => ?_
 refine Zt (args' := [.int .i64 s.nxt.pos]) func80 rfl rfl rfl (Ya s.nxt.pos _ _) ?_ ?_
 ·rintro rr H' n' ⟨rfl, rfl, h1⟩
  cases h1
 rintro q9 H' n' ⟨rfl, rfl, h1⟩
 cases h1
 exact QdE.err hr om (fun k e1 e2 e3 => by rfl)
end Go.Proofs.YtkmkbndcekklmaaGreatDoor
set_option maxRecDepth 10000
namespace Go.Proofs.YtkmkbndcekklmaaGreatDoor
open Go Go.Sx Go.Rt Go.Proofs
end Go.Proofs.YtkmkbndcekklmaaGreatDoor
set_option maxRecDepth 10000
namespace Go.Proofs.YtkmkbndcekklmaaGreatDoor
open Go Go.Sx Go.Rt Go.Proofs Tryz
open N0 in
theorem U5 (x lo hi : Int) (H : Heap) (n : Nat) : Ret prog 103 [.int .i64 x, .int .i64 lo, .int .i64 hi] H n (.bool (bout x lo hi)) H n := by
 refine fw func103 ntmps103 results103 ?_
 exact kbp
open N0 in
theorem c_ref2_name (s : List UInt8) (H : Heap) (n : Nat) : Ret prog 104 [.str s] H n (.bool (Y6 s)) H n := by
 refine fw func104 ntmps104 results104 ?_
 refine rg zs [0] ?_
 refine Za fun K1 hK1 => ?_
 refine rk zs [0, 8] fun K V => ?_
 refine ck func103 ((by apply U5 <;> first | assumption | omega)) ?_
 apply V; clear V K
 refine Zb ?_ ?_ <;> intro hb
 ·have hend : Y6 s = false := by unfold Y6; rw [hb]; rfl
  refine rg zs [2] ?_
  refine ar ?_
  rw [hend]
 have hlen := Qb hb
 have hb8 : bout s.length 1 32 = false := hb
 refine ak ?_
 apply hK1
 refine Za fun K2 hK2 => ?_
 refine rg zs [0, 3] ?_
 refine Zy ?_
 refine Zp (fun T' H' n' => ∃ i : Nat, i ≤ s.length ∧ T' = tl [(0, .str s), (3, .int .i64 i)] ∧ H' = H ∧ n' = n ∧ (s.drop i).all Va = s.all Va ∧ (0 < i → Xm (s.getD 0 0) = true)) (fun T' _ _ => s.length - iv (T' 3)) ?_ ?_
 ·exact ⟨0, Nat.zero_le _, rfl, rfl, rfl, osi, fun h => absurd h odc⟩
 rintro T1 H1 n1 ⟨i, hi, rfl, rfl, rfl, hall, hl0⟩
 refine Za fun K3 hK3 => ?_
 refine rg zs [0, 3, 12] ?_
 refine Zb ?_ ?_ <;> intro hb
 ·have hlt : i < s.length := osb
  rw [X4 s i hlt, List.all_cons] at hall
  have hg0 : i = 0 → s.getD 0 0 = s.getD i default := fun h => by rw [h]; rfl
  refine ak ?_
  apply hK3
  refine bk fun K4 hK4 => ?_
  refine Zf zs [0, 3, 4] fun K V => ?_
  try simp only [go_sem, seval, Int.toNat_natCast]
  repeat refine peel ?_
  apply V; clear V K
  generalize hc : s.getD i default = c at *
  have hc0 : s.getD i 0 = c := hc
  refine Zf zs [0, 3, 4, 5] fun K V => ?_
  try simp only [go_sem, seval, hc0]
  repeat refine peel ?_
  apply V; clear V K
  have hA : (bif decide (97 ≤ (c.toNat : Int)) then decide ((c.toNat : Int) ≤ 122) else false) = Xm c := by unfold Xm; cases decide (97 ≤ (c.toNat : Int)) <;> rfl
  refine rg zs [0, 3, 41] ?_
  refine Zb ?_ ?_ <;> intro hb
  ·rw [hA] at hb
   have hend : Y6 s = false := by
     by_cases h0 : i = 0
     ·have h1 : Xm c = false := by cases h9 : Xm c <;> simp_all
      unfold Y6; rw [hg0 h0, h1]; simp
     ·have h2 : Va c = false := by
        unfold Va
        have h3 : ((i : Int) == 0) = false := oz
        rw [h3] at hb
        cases h4 : Xm c <;> cases h5 : decide ((c.toNat : Int) < 48) <;> cases h6 : decide (57 < (c.toNat : Int)) <;> cases h7 : ((c.toNat : Int) != 95) <;> simp_all
      rw [h2] at hall
      unfold Y6; rw [← hall]; simp
   refine rg zs [2] ?_
   refine ar ?_
   rw [hend]
  rw [hA] at hb
  have h2 : Va c = true := by
    unfold Va
    cases h3 : ((i : Int) == 0) <;> rw [h3] at hb <;> cases h4 : Xm c <;> cases h5 : decide ((c.toNat : Int) < 48) <;> cases h6 : decide (57 < (c.toNat : Int)) <;> cases h7 : ((c.toNat : Int) != 95) <;> simp_all
  have h3 : Xm (s.getD 0 0) = true := by
    by_cases h0 : i = 0
    ·rw [hg0 h0]; cases h9 : Xm c <;> simp_all
    ·exact hl0 om
  rw [h2, Bool.true_and] at hall
  refine ak ?_
  apply hK4
  refine rg1 zs [0, 3] ?_
  exact ⟨⟨i + 1, om, by rw [w1 om], hall, fun _ => h3⟩, by rw [w1 om]; simp; omega⟩
 have hge : i = s.length := by simp at hb; omega
 have hend : Y6 s = true := by
   unfold Y6
   rw [hb8, hl0 om, ← hall, hge]; simp
 refine ax ?_
 apply hK2
 refine rg zs [2] ?_
 refine ar ?_
 rw [hend]
open N0 in
theorem c_ref2_Family (s : List Fml) (name : List UInt8) (hl : s.length ≤ 1048576) (H : Heap) (n : Nat) : Ret prog 105 [Zi s, .str name] H n (.int .i64 (XB s name 0)) H n := by
 refine Ret.fin ?_
 refine fw func105 ntmps105 results105 ?_
 refine rg zs [1, 2] ?_
 refine Za fun K1 hK1 => ?_
 refine rg zs [1, 2, 5] ?_
 refine kbM ?_
 refine Zp (fun T' H' n' => ∃ i : Nat, i ≤ s.length ∧ T' = tl [(1, .str name), (2, .loc n 0 0 0 []), (5, .int .i64 i)] ∧ H' = H.put n (some (.arr 0 1 [.agg [.sl 3 (s.map YM)]])) ∧ n' = n + 1 ∧ XB (s.drop i) name i = XB s name 0) (fun T' _ _ => s.length - iv (T' 5)) ?_ ?_
 ·exact ⟨0, Nat.zero_le _, rfl, rfl, rfl, rfl⟩
 rintro T1 H1 n1 ⟨i, hi, rfl, rfl, rfl, hix⟩
 refine Za fun K2 hK2 => ?_
 refine rg zs [1, 2, 5, 10] ?_
 refine Zb ?_ ?_ <;> intro hb
 ·have hlt : i < s.length := osb
  rw [X4 s i hlt, XB] at hix
  have hnth : nth (s.map YM) i = YM (s.getD i default) := Zx YM s i hlt
  refine kaQ ?_
  refine bk fun K3 hK3 => ?_
  refine Zf zs [1, 2, 5, 20] fun K V => ?_
  try simp only [go_sem, seval, Int.toNat_natCast, hnth]
  refine kad ?_
  refine Zb ?_ ?_ <;> intro hb
  ·have he : (s.getD i default).name = name := osb
   rw [if_pos he] at hix
   refine kag ?_
   exact kaT
  have he : ¬ (s.getD i default).name = name := osb
  rw [if_neg he] at hix
  refine kba ?_
  exact kcz
 have hge : i = s.length := by simp at hb; omega
 have hix : (-1 : Int) = XB s name 0 := by rw [← hix, hge]; simp [XB]
 refine ax ?_
 apply hK1
 refine kag ?_
 exact kaT
open N0 in
theorem JP (s : List Fml) (H : Heap) (n : Nat) : Ret prog 69 [Zi s] H n (.int .i64 (Zv s)) H n := by
 refine Ret.fin ?_
 refine fw func69 ntmps69 results69 ?_
 refine rg zs [1] ?_
 refine Za fun K1 hK1 => ?_
 refine rk zs [1, 8] fun K V => ?_
 refine ck func103 ((by apply U5 <;> first | assumption | omega)) ?_
 apply V; clear V K
 refine Zb ?_ ?_ <;> intro hb
 ·have hres : (28 : Int) = Zv s := by
    have : bout s.length 1 8 = true := osb
    simp [Zv, this]
  refine rg zs [2] ?_
  refine ar ?_
  refine ⟨_, rfl, ?_, Frz.eq (by rw [hres]) trivial⟩
  intro k hk; have h0 : k ≠ n := om
  simp [Heap.put, h0]; done
 have hb8 : bout s.length 1 8 = false := osb
 have hlen := Qb hb8
 refine ak ?_
 apply hK1
 refine Za fun K2 hK2 => ?_
 refine rg zs [1, 3] ?_
 refine Zy ?_
 refine Zp (fun T' H' n' => ∃ i : Nat, i ≤ s.length ∧ T' = tl [(1, .loc n 0 0 0 []), (3, .int .i64 i)] ∧ n + 1 ≤ n' ∧ H' n = some (.arr 0 1 [.agg [.sl 3 (s.map YM)]]) ∧ (∀ k, k < n → H' k = H k) ∧ WW s (s.drop i) i = WW s s 0) (fun T' _ _ => s.length - iv (T' 3)) ?_ ?_
 ·exact ⟨0, Nat.zero_le _, rfl, om, Pk _ _ _, fun k hk => Pi _ _ om, rfl⟩
 rintro T1 H1 n1 ⟨i, hi, rfl, hn, hHn, hH, hix⟩
 refine Za fun K3 hK3 => ?_
 refine Zf zs [1, 3, 13] fun K V => ?_
 try simp only [go_sem, seval, hHn]
 repeat refine peel ?_
 apply V; clear V K
 refine Zb ?_ ?_ <;> intro hb
 ·have hlt : i < s.length := osb
  rw [X4 s i hlt, Ki] at hix
  have hn1 : (n = n1) = False := oz
  have hnth : nth (s.map YM) i = YM (s.getD i default) := Zx YM s i hlt
  refine ak ?_
  apply hK3
  refine bk fun K4 hK4 => ?_
  refine Zf zs [1, 3, 4] fun K V => ?_
  try simp only [go_sem, seval, Int.toNat_natCast, hnth, hHn]
  repeat refine peel ?_
  apply V; clear V K
  refine Zf zs [1, 3, 42] fun K V => ?_
  try simp only [go_sem, seval, Int.toNat_natCast, hn1, hHn]
  repeat refine peel ?_
  refine Zo func104 rfl rfl rfl ((c_ref2_name (s.getD i default).name _ _)) ?_
  try simp only [go_sem, seval, Int.toNat_natCast, hn1, hHn]
  repeat refine peel ?_
  refine Yz func103 rfl rfl rfl (fun _ => (U5 (s.getD i default).max 1 16 _ _)) ?_
  try simp only [go_sem, seval, Int.toNat_natCast, hn1, hHn]
  repeat refine peel ?_
  refine Yz func103 rfl rfl rfl (fun _ => (U5 (s.getD i default).ttl 0 1099511627776 _ _)) ?_
  try simp only [go_sem, seval, Int.toNat_natCast, hn1, hHn]
  repeat refine peel ?_
  refine Yz func105 rfl rfl rfl (fun _ => (c_ref2_Family s (s.getD i default).name om _ _)) ?_
  try simp only [go_sem, seval, Int.toNat_natCast, hn1, hHn]
  repeat refine peel ?_
  apply V; clear V K
  refine Zb ?_ ?_ <;> intro hb
  ·have hbad : Uk s (s.getD i default) i = true := by
     simp only [Uk]; cases h1 : Y6 (s.getD i default).name <;> cases h2 : bout (s.getD i default).max 1 16 <;> cases h3 : bout (s.getD i default).ttl 0 1099511627776 <;> simp_all
   have hres : (28 : Int) = Zv s := by rw [hbad] at hix; simp [Zv, hb8, ← hix]
   refine rg zs [2] ?_
   refine ar ?_
   refine ⟨_, rfl, ?_, Frz.eq (by rw [hres]) trivial⟩
   intro k hk; have h0 : k ≠ n := om
   have h1 : k ≠ n1 := om; simp [Heap.put, h0, h1, hH k hk]
  have hbad : Uk s (s.getD i default) i = false := by
    simp only [Uk]; cases h1 : Y6 (s.getD i default).name <;> cases h2 : bout (s.getD i default).max 1 16 <;> cases h3 : bout (s.getD i default).ttl 0 1099511627776 <;> simp_all
  rw [hbad, Bool.false_or] at hix
  refine ak ?_
  apply hK4
  refine rg1 zs [1, 3] ?_
  refine ⟨⟨i + 1, om, by rw [w1 om], om, ?_, ?_, hix⟩, by rw [w1 om]; simp; omega⟩
  ·simp [hn1, hHn, Zi]
  ·intro k hk; have h0 : k ≠ n1 := om
   simp [h0, hH k hk]
 have hge : i = s.length := by simp at hb; omega
 have hres : (0 : Int) = Zv s := by rw [hge] at hix; simp [WW] at hix; simp [Zv, hb8, hix]
 refine ax ?_
 apply hK2
 refine rg zs [2] ?_
 refine ar ?_
 refine ⟨_, rfl, ?_, Frz.eq (by rw [hres]) trivial⟩
 intro k hk; have h0 : k ≠ n := om
 exact hH k hk
open N0 in
theorem LH (b : UInt8) (H : Heap) (n : Nat) : Ret prog 147 [Zd b] H n (.bool (We b)) H n := by
 refine fw func147 ntmps147 results147 ?_
 refine kcu ?_
 refine kal ?_
 exact kbm
open N0 in
theorem WZ (b : UInt8) (H : Heap) (n : Nat) : Ret prog 148 [Zd b] H n (.bool (Zw b)) H n := by
 refine fw func148 ntmps148 results148 ?_
 refine kcu ?_
 refine kal ?_
 exact kbo
open N0 in
theorem LG (x lo hi : Int) (H : Heap) (n : Nat) : Ret prog 68 [.int .i64 x, .int .i64 lo, .int .i64 hi] H n (.bool (bout x lo hi)) H n := by
 refine fw func68 ntmps68 results68 ?_
 exact kbp
theorem half_all : ∀ r : Fin 256, (if Zw (UInt8.ofNat r.1) then IntKind.i64.wrap (IntKind.u8.wrap (((UInt8.ofNat r.1).toNat : Int) - 48)) else if (bif decide ((97 : Int) ≤ ((UInt8.ofNat r.1).toNat : Int)) then decide (((UInt8.ofNat r.1).toNat : Int) ≤ 102) else false) then IntKind.i64.wrap (IntKind.i64.wrap (IntKind.u8.wrap (((UInt8.ofNat r.1).toNat : Int) - 97)) + 10) else -1) = hexI (UInt8.ofNat r.1) := by decide +kernel
theorem half_eq (b : UInt8) : (if Zw b then IntKind.i64.wrap (IntKind.u8.wrap ((b.toNat : Int) - 48)) else if (bif decide ((97 : Int) ≤ (b.toNat : Int)) then decide ((b.toNat : Int) ≤ 102) else false) then IntKind.i64.wrap (IntKind.i64.wrap (IntKind.u8.wrap ((b.toNat : Int) - 97)) + 10) else -1) = hexI b := by
 have h := half_all ⟨b.toNat, b.toNat_lt⟩
 have e : UInt8.ofNat b.toNat = b := osi
 simp only [e] at h
 exact h
open N0 in
theorem Vq (b : UInt8) (H : Heap) (n : Nat) : Ret prog 156 [Zd b] H n (.int .i64 (hexI b)) H n := by
 have hbl := b.toNat_lt
 refine fw func156 ntmps156 results156 ?_
 refine kcu ?_
 refine Za fun K1 hK1 => ?_
 refine rc zs [0, 4] func148 ((WZ b _ _)) ?_
 refine Zb ?_ ?_ <;> intro hb
 ·refine kal ?_
  rw [← half_eq b]
  simp only [*]
  rfl
 refine kay ?_
 refine Za fun K2 hK2 => ?_
 refine rg zs [0, 13] ?_
 refine Zb ?_ ?_ <;> intro hb
 ·refine kal ?_
  rw [← half_eq b]
  simp only [*]
  rfl
 refine kaQ ?_
 refine kal ?_
 rw [← half_eq b]
 simp only [*]
 rfl
open N0 in
theorem L9 (w : List UInt8) (H : Heap) (n : Nat) : Ret prog 167 [.str w] H n (.int .u8 (if w = wFam then 110 else if w = wTs then 100 else 115)) H n := by
 refine fw func167 ntmps167 results167 ?_
 refine kcu ?_
 refine Za fun K1 hK1 => ?_
 refine rg zs [3] ?_
 refine kbM ?_
 refine rg zs [3, 4] ?_
 refine Zb ?_ ?_ <;> intro hb
 ·refine kal ?_
  simp_all [wFam, wTs]
 refine rg zs [6] ?_
 refine Zb ?_ ?_ <;> intro hb
 ·refine kal ?_
  simp_all [wFam, wTs]
 refine kay ?_
 refine kal ?_
 simp_all [wFam, wTs]
open N0 in
theorem c_ref13_may (k w : List UInt8) (H : Heap) (n : Nat) : Ret prog 166 [.str k, .str w] H n (.bool (decide (w ∈ (if k = wFam then sEq else if k = wTs then sCmp else sAll)))) H n := by
 refine fw func166 ntmps166 results166 ?_
 refine kb1 ?_
 refine Za fun K1 hK1 => ?_
 refine rg zs [0, 1, 10] ?_
 refine Zb ?_ ?_ <;> intro hb
 ·refine kag ?_
  simp only [wFam, wTs, sEq, sCmp, sAll]
  grind
 refine kay ?_
 refine Za fun K2 hK2 => ?_
 refine rg zs [0, 1, 12] ?_
 refine Zb ?_ ?_ <;> intro hb
 ·refine kag ?_
  simp only [wFam, wTs, sEq, sCmp, sAll]
  grind
 refine kaQ ?_
 refine kag ?_
 simp only [wFam, wTs, sEq, sCmp, sAll]
 grind
open N0 in
theorem NR (s : List Fml) (name : List UInt8) (hl : s.length ≤ 1048576) (H : Heap) (n : Nat) : Ret prog 168 [Zi s, .str name] H n (.int .i64 (XB s name 0)) H n := by
 refine Ret.fin ?_
 refine fw func168 ntmps168 results168 ?_
 refine rg zs [1, 2] ?_
 refine Za fun K1 hK1 => ?_
 refine rg zs [1, 2, 5] ?_
 refine kbM ?_
 refine Zp (fun T' H' n' => ∃ i : Nat, i ≤ s.length ∧ T' = tl [(1, .str name), (2, .loc n 0 0 0 []), (5, .int .i64 i)] ∧ H' = H.put n (some (.arr 0 1 [.agg [.sl 3 (s.map YM)]])) ∧ n' = n + 1 ∧ XB (s.drop i) name i = XB s name 0) (fun T' _ _ => s.length - iv (T' 5)) ?_ ?_
 ·exact ⟨0, Nat.zero_le _, rfl, rfl, rfl, rfl⟩
 rintro T1 H1 n1 ⟨i, hi, rfl, rfl, rfl, hix⟩
 refine Za fun K2 hK2 => ?_
 refine rg zs [1, 2, 5, 10] ?_
 refine Zb ?_ ?_ <;> intro hb
 ·have hlt : i < s.length := osb
  rw [X4 s i hlt, XB] at hix
  have hnth : nth (s.map YM) i = YM (s.getD i default) := Zx YM s i hlt
  refine kaQ ?_
  refine bk fun K3 hK3 => ?_
  refine Zf zs [1, 2, 5, 20] fun K V => ?_
  try simp only [go_sem, seval, Int.toNat_natCast, hnth]
  refine kad ?_
  refine Zb ?_ ?_ <;> intro hb
  ·have he : (s.getD i default).name = name := osb
   rw [if_pos he] at hix
   refine kag ?_
   exact kaT
  have he : ¬ (s.getD i default).name = name := osb
  rw [if_neg he] at hix
  refine kba ?_
  exact kcz
 have hge : i = s.length := by simp at hb; omega
 have hix : (-1 : Int) = XB s name 0 := by rw [← hix, hge]; simp [XB]
 refine ax ?_
 apply hK1
 refine kag ?_
 exact kaT
end Go.Proofs.YtkmkbndcekklmaaGreatDoor