/- Own layer: the walk through refuses (of a command's bytes, of a reply's). Of the program; no condition. -/
import Derived.Test.YtifnhpmeoogedaaGreatDoorPL
import Derived.Test.YtifnhpmeoogedaaGreatDoorPH
import Derived.Test.YtifnhpmeoogedaaGreatDoorPI
set_option linter.unusedSimpArgs false
set_option linter.unusedVariables false
namespace Go.Proofs.YtifnhpmeoogedaaGreatDoor
open Go Go.Sx Go.Rt Go.Proofs Tryz
set_option maxHeartbeats 1600000 in
theorem Kh (fs : List Fml) (hfs : fs.length ≤ 1048576) (b : List UInt8) (h0 : 0 < b.length) (hbl : b.length ≤ 98304) (hcut : ∀ k, k < b.length → (decC (qcE fs) fs (b.take k)).2 = 140) (hlong : ∀ v, v ≠ [] → (decC (qcE fs) fs (b ++ v)).2 ≠ 0) (cut : Int) (hc1 : -9223372036854775808 ≤ cut) (tail : List UInt8) (htl : tail.length ≤ 1048576) {H : Heap} {n : Nat} (hG : GOK 0 2 H n) :
   Ret prog 32 [Zt fs, bys b, .int .i64 cut, bys tail, .bool false] H n (.bool true) H n := by
 have hszs : (Zt fs).sz = 1 := rfl
 have hags : (Zt fs).isAgg = true := rfl
 have hmos : (Zt fs).memOK = true := rfl
 have hG0 := hG
 have hca : ∀ c, (Zh c).isAgg = true := fun _ => rfl
 have hcm : ∀ c, (Zh c).memOK = true := fun _ => rfl
 refine Ret.fin ?_
 refine Zc func32 rfl ntmps32 (congrArg Array.toList results32) (by simp) ?_
 simp only [go_sem]
 refine Za zs [1, 2, 3, 4, 5] fun K Y => ?_
 simp only [go_sem, seval]
 apply Y; clear Y K
 refine Yi [1, 2, 3, 4, 5] (fun T' H' n' => ∃ k : Nat, k < b.length ∧ T' = tl [(1, bys b), (2, .int .i64 k), (3, bys tail), (4, .bool false), (5, .loc n 0 0 0 [])] ∧ H.put n (some (.arr 0 1 [Zt fs])) = H' ∧ n + 1 = n') ?_ ?_
 ·refine Za zs [1, 2, 3, 4, 5, 27] fun K Y => ?_
  simp only [go_sem, seval, List.length_map]
  repeat refine peel ?_
  apply Y; clear Y K
  refine Ze ?_ ?_ <;> intro hb
  ·have hkk : 0 < b.length := h0
   refine Zl zs [1, 2, 3, 4, 5] fun K Y => ?_
   simp only [go_sem, seval]
   apply Y; clear Y K
   simp only [go_sem, seval]
   exact ⟨0, hkk, rfl⟩
  have hkk : ∃ k : Nat, k < b.length ∧ cut = (k : Int) := by
    rcases Int.lt_or_le cut 0 with q | q
    ·rw [decide_eq_true q] at hb; cases hb
    ·rcases Int.lt_or_le cut b.length with q2 | q2
     ·exact ⟨cut.toNat, by omega, by omega⟩
     ·rw [decide_eq_false (by omega), decide_eq_true q2] at hb; cases hb
  refine Zd ?_
  simp only [go_sem, seval]
  (obtain ⟨k, hk, rfl⟩ := hkk; exact ⟨k, hk, rfl⟩)
 rintro T1 H1 n1 ⟨k, hk, rfl, rfl, rfl⟩
 refine Yi [1, 2, 3, 4, 5] (fun T' H' n' => T' = tl [(1, bys b), (2, .int .i64 k), (3, bys (tail.take 100)), (4, .bool false), (5, .loc n 0 0 0 [])] ∧ H.put n (some (.arr 0 1 [Zt fs])) = H' ∧ n + 1 = n') ?_ ?_
 ·refine Za zs [1, 2, 3, 4, 5, 30] fun K Y => ?_
  simp only [go_sem, seval, List.length_map]
  apply Y; clear Y K
  refine Ze ?_ ?_ <;> intro hb
  ·refine Zl zs [1, 2, 3, 4, 5] fun K Y => ?_
   simp only [go_sem, seval, List.length_map, Option.getD_some, Option.getD_none, List.drop_zero]
   repeat (first | refine peel ?_ | refine ⟨by exact ⟨by have := of_decide_eq_true hb; omega, fun m h => h.elim⟩, ?_⟩)
   apply Y; clear Y K
   simp only [go_sem, seval]
   (simp [List.map_take]; done)
  refine Zd ?_
  simp only [go_sem, seval]
  (rw [List.take_of_length_le (by have := of_decide_eq_false hb; omega)]; done)
 rintro T1 H1 n1 ⟨rfl, rfl, rfl⟩
 obtain ⟨w, hw⟩ : ∃ w, w = tail.take 100 := ⟨_, rfl⟩
 have hwl : w.length ≤ 100 := by rw [hw, List.length_take]; omega
 rw [← hw]
 refine Za zs [1, 2, 3, 4, 5, 11] fun K Y => ?_
 simp only [go_sem, seval]
 apply Y; clear Y K
 refine Yb 11 1 rfl ?_
 simp only [go_sem, seval]
 refine Za zs [1, 2, 3, 4, 5, 11] fun K Y => ?_
 simp only [go_sem, seval, List.length_map]
 repeat (first | refine peel ?_ | refine ⟨by exact ⟨.inr trivial, by omega, by omega⟩, ?_⟩)
 apply Y; clear Y K
 refine Za zs [1, 2, 3, 4, 5, 11] fun K Y => ?_
 simp only [go_sem, seval, List.length_map, Yp]
 repeat (first | refine peel ?_ | refine ⟨by exact ⟨Nat.le_refl _, .inr trivial, by omega, by omega⟩, ?_⟩)
 apply Y; clear Y K
 refine Zb fun K1 hK1 => ?_
 refine Za zs [1, 2, 3, 5, 11, 39] fun K Y => ?_
 simp only [go_sem, seval]
 apply Y; clear Y K
 refine Ze ?_ ?_ <;> intro hb
 ·exact absurd hb (by decide) --dead
 refine Zd ?_
 simp only [go_sem, seval]
 apply hK1
 clear hK1 K1
 refine Yh (fun H' n' => H' n = some (.arr 0 1 [Zt fs]) ∧ H' (n + 1) = some (.arr 2 1 ((b ++ w).map Zn)) ∧ (∀ k, k < n → H' k = H k) ∧ n' = n + 2) ⟨by (try simp only [MF]); (repeat rw [if_neg (by omega)]); first | rfl | exact if_pos rfl, by rw [MG, List.map_append], fun k hk => by (try simp only [MF]); (repeat rw [if_neg (by omega)]), by omega⟩ fun H1 n1 ⟨r1, r2, hl1, hn1⟩ => ?_
 subst hn1
 rw [← List.length_append]
 have hG1 := hG0.on hl1 (by omega : n ≤ n + 2)
 have ek : List.take k (b.map Zn) = (b.take k).map Zn := by rw [List.map_take]
 have cQ1 : ∀ (Hz : Heap), Hz 0 = some (.glob 5 XX) → Hz 2 = some (.glob 1 Vx) → ∀ n9, Ret prog 26 [Zt fs, bys (b.take k)] Hz n9 (.tup [Zh (decC (qcE fs) fs (b.take k)).1, .int .i64 140]) Hz n9 := fun Hz ha hb n9 => Ret.below ha fun g1 => Ret.below hb fun g2 => by
   have h := q_Decode fs hfs (b.take k) (by rw [List.length_take]; omega) ⟨ha, hb, g1, g2⟩
   rw [hcut k hk] at h; exact h
 have hgk := hG0.gek
 have hgt := hG0.get
 have q1 : (n = n + 2) = False := by simp
 have q2 : (n + 1 = n + 2) = False := by simp
 refine VY rfl zs [3, 5, 11, 17] [.q, .m, .m, .q, .c, .m, .q, .q, .w [0, 3, 4, 6, 7], .w [7], .q] [0, 1, 2, 3, 4, 5, 6, 7, 8, 9, 10] [0, 1, 2, 3, 4, 5, 6, 7, 8, 9, 10] (by kernel_rfl) (fun _ _ _ _ _ h => h) fun K Y => ?_
 simp only [go_sem, seval, List.length_map, r1, q1, ek, Option.getD_some, Option.getD_none, List.drop_zero, Int.toNat_natCast]
 repeat (first | refine peel ?_ | refine ⟨by exact ⟨by omega, by omega, fun m h => h.elim⟩, ?_⟩)
 refine ZR func26 rfl rfl rfl (fun _ n => (cQ1 _ hG1.kinds hG1.table n)) ?_
 simp only [go_sem, seval, hcm, Yy]
 repeat (first | refine peel ?_ | refine ⟨by exact ⟨(by unfold XK; intro g; cases g <;> rfl), fun d hd => by cases hd; exact callQ_mkB func26 rfl rfl rfl (fun n9 => cQ1 _ ((ME _ _ (by omega)).trans hG1.kinds) ((ME _ _ (by omega)).trans hG1.table) n9)⟩, ?_⟩)
 apply Y; clear Y K
 refine Za zs [3, 17, 19] fun K Y => ?_
 simp only [go_sem, seval, r1, q1]
 refine Zg func26 rfl rfl rfl ((Ret.frzK (args := [Zt fs, .osl (n + 1) 2 0 (b ++ w).length]) (args' := [Zt fs, bys (b ++ w)]) (n + 1) ((ME _ _ (by omega)).trans r2) ⟨FzV.refl _, fz_bys _, trivial⟩ (q_Decode fs hfs (b ++ w) (by rw [List.length_append]; omega) (hG0.on (fun k hk => by (try simp only [MF]); (repeat rw [if_neg (by omega)]); exact hl1 k hk) (by omega))))) ?_
 simp only [go_sem, seval, hcm, Yy]
 apply Y; clear Y K
 refine Za zs [10] fun K Y => ?_
 simp only [go_sem, seval, List.length_map]
 repeat refine peel ?_
 apply Y; clear Y K
 refine Zf ?_
 simp only [go_sem, seval]
 exact ⟨_, rfl, fun k hk => by (try simp only [MF]); (repeat rw [if_neg (by omega)]); exact hl1 k hk, X9 (by by_cases e : w = []; (simp [e]); (simp [hlong w e]))⟩
set_option maxHeartbeats 1600000 in
theorem Kg (fs : List Fml) (b : List UInt8) (h0 : 0 < b.length) (hbl : b.length ≤ 1048576) (hcut : ∀ k, k < b.length → (decR (b.take k)).2 = 147) (hlong : ∀ v, v ≠ [] → (decR (b ++ v)).2 ≠ 0) (cut : Int) (hc1 : -9223372036854775808 ≤ cut) (tail : List UInt8) (htl : tail.length ≤ 1048576) {H : Heap} {n : Nat} :
   Ret prog 32 [Zt fs, bys b, .int .i64 cut, bys tail, .bool true] H n (.bool true) H n := by
 have hszs : (Zt fs).sz = 1 := rfl
 have hags : (Zt fs).isAgg = true := rfl
 have hmos : (Zt fs).memOK = true := rfl
 have hca : ∀ c, (Zy c).isAgg = true := fun _ => rfl
 have hcm : ∀ c, (Zy c).memOK = true := fun _ => rfl
 refine Ret.fin ?_
 refine Zc func32 rfl ntmps32 (congrArg Array.toList results32) (by simp) ?_
 simp only [go_sem]
 refine Za zs [1, 2, 3, 4, 5] fun K Y => ?_
 simp only [go_sem, seval]
 apply Y; clear Y K
 refine Yi [1, 2, 3, 4, 5] (fun T' H' n' => ∃ k : Nat, k < b.length ∧ T' = tl [(1, bys b), (2, .int .i64 k), (3, bys tail), (4, .bool true), (5, .loc n 0 0 0 [])] ∧ H.put n (some (.arr 0 1 [Zt fs])) = H' ∧ n + 1 = n') ?_ ?_
 ·refine Za zs [1, 2, 3, 4, 5, 27] fun K Y => ?_
  simp only [go_sem, seval, List.length_map]
  repeat refine peel ?_
  apply Y; clear Y K
  refine Ze ?_ ?_ <;> intro hb
  ·have hkk : 0 < b.length := h0
   refine Zl zs [1, 2, 3, 4, 5] fun K Y => ?_
   simp only [go_sem, seval]
   apply Y; clear Y K
   simp only [go_sem, seval]
   exact ⟨0, hkk, rfl⟩
  have hkk : ∃ k : Nat, k < b.length ∧ cut = (k : Int) := by
    rcases Int.lt_or_le cut 0 with q | q
    ·rw [decide_eq_true q] at hb; cases hb
    ·rcases Int.lt_or_le cut b.length with q2 | q2
     ·exact ⟨cut.toNat, by omega, by omega⟩
     ·rw [decide_eq_false (by omega), decide_eq_true q2] at hb; cases hb
  refine Zd ?_
  simp only [go_sem, seval]
  (obtain ⟨k, hk, rfl⟩ := hkk; exact ⟨k, hk, rfl⟩)
 rintro T1 H1 n1 ⟨k, hk, rfl, rfl, rfl⟩
 refine Yi [1, 2, 3, 4, 5] (fun T' H' n' => T' = tl [(1, bys b), (2, .int .i64 k), (3, bys (tail.take 100)), (4, .bool true), (5, .loc n 0 0 0 [])] ∧ H.put n (some (.arr 0 1 [Zt fs])) = H' ∧ n + 1 = n') ?_ ?_
 ·refine Za zs [1, 2, 3, 4, 5, 30] fun K Y => ?_
  simp only [go_sem, seval, List.length_map]
  apply Y; clear Y K
  refine Ze ?_ ?_ <;> intro hb
  ·refine Zl zs [1, 2, 3, 4, 5] fun K Y => ?_
   simp only [go_sem, seval, List.length_map, Option.getD_some, Option.getD_none, List.drop_zero]
   repeat (first | refine peel ?_ | refine ⟨by exact ⟨by have := of_decide_eq_true hb; omega, fun m h => h.elim⟩, ?_⟩)
   apply Y; clear Y K
   simp only [go_sem, seval]
   (simp [List.map_take]; done)
  refine Zd ?_
  simp only [go_sem, seval]
  (rw [List.take_of_length_le (by have := of_decide_eq_false hb; omega)]; done)
 rintro T1 H1 n1 ⟨rfl, rfl, rfl⟩
 obtain ⟨w, hw⟩ : ∃ w, w = tail.take 100 := ⟨_, rfl⟩
 have hwl : w.length ≤ 100 := by rw [hw, List.length_take]; omega
 rw [← hw]
 refine Za zs [1, 2, 3, 4, 5, 11] fun K Y => ?_
 simp only [go_sem, seval]
 apply Y; clear Y K
 refine Yb 11 1 rfl ?_
 simp only [go_sem, seval]
 refine Za zs [1, 2, 3, 4, 5, 11] fun K Y => ?_
 simp only [go_sem, seval, List.length_map]
 repeat (first | refine peel ?_ | refine ⟨by exact ⟨.inr trivial, by omega, by omega⟩, ?_⟩)
 apply Y; clear Y K
 refine Za zs [1, 2, 3, 4, 5, 11] fun K Y => ?_
 simp only [go_sem, seval, List.length_map, Yp]
 repeat (first | refine peel ?_ | refine ⟨by exact ⟨Nat.le_refl _, .inr trivial, by omega, by omega⟩, ?_⟩)
 apply Y; clear Y K
 refine Zb fun K1 hK1 => ?_
 refine Za zs [1, 2, 3, 5, 11, 39] fun K Y => ?_
 simp only [go_sem, seval]
 apply Y; clear Y K
 refine Ze ?_ ?_ <;> intro hb
 ·refine Yh (fun H' n' => H' (n + 1) = some (.arr 2 1 ((b ++ w).map Zn)) ∧ (∀ k, k < n → H' k = H k) ∧ n' = n + 2) ⟨by rw [MG, List.map_append], fun k hk => by (try simp only [MF]); (repeat rw [if_neg (by omega)]), by omega⟩ fun H1 n1 ⟨r2, hl1, hn1⟩ => ?_
  subst hn1
  rw [← List.length_append]
  have ek : List.take k (b.map Zn) = (b.take k).map Zn := by rw [List.map_take]
  have q2 : (n + 1 = n + 2) = False := by simp
  refine Za zs [3, 11, 13] fun K Y => ?_
  simp only [go_sem, seval, List.length_map, ek, Option.getD_some, Option.getD_none, List.drop_zero, Int.toNat_natCast]
  repeat (first | refine peel ?_ | refine ⟨by exact ⟨by omega, by omega, fun m h => h.elim⟩, ?_⟩)
  refine Zg func37 rfl rfl rfl ((by have h := XZ (b.take k) (H := H1) (n := n + 2); rw [hcut k hk] at h; exact h)) ?_
  simp only [go_sem, seval, hcm, Xv]
  apply Y; clear Y K
  refine Za zs [3, 13, 15] fun K Y => ?_
  simp only [go_sem, seval]
  refine Zg func37 rfl rfl rfl ((Ret.frzK (args := [.osl (n + 1) 2 0 (b ++ w).length]) (args' := [bys (b ++ w)]) (n + 1) ((ME _ _ (by omega)).trans r2) ⟨fz_bys _, trivial⟩ (XZ (b ++ w)))) ?_
  simp only [go_sem, seval, hcm, Xv]
  apply Y; clear Y K
  refine Za zs [10] fun K Y => ?_
  simp only [go_sem, seval, List.length_map]
  repeat refine peel ?_
  apply Y; clear Y K
  refine Zf ?_
  simp only [go_sem, seval]
  exact ⟨_, rfl, fun k hk => by (try simp only [MF]); (repeat rw [if_neg (by omega)]); exact hl1 k hk, X9 (by by_cases e : w = []; (simp [e]); (simp [hlong w e]))⟩
 exact absurd hb (by decide) --dead
def celT (c : CelE) : CelE := { c with qual := c.qual.take 5000, value := c.value.take 5000 }
def rowT (r : RowE) : RowE := ⟨r.row.take 5000, (r.cells.take 20).map celT⟩
def repT (r : RepE) : RepE := { r with rows := (r.rows.take 1002).map rowT, token := r.token.take 5000 }
theorem QF {α β : Type} [Inhabited α] (f : α → β) (l : List α) {i : Nat} (h : i < l.length) : (l.take (i + 1)).map f = (l.take i).map f ++ [f (l.getD i default)] := by
 rw [List.take_succ_eq_append_getElem h, List.map_append]
 simp [List.getD, List.getElem?_eq_getElem h]
set_option maxHeartbeats 3200000 in
theorem c_law14_page (r : RepE) (hr : r.rows.length ≤ 1048576) (hc : ∀ x ∈ r.rows, x.cells.length ≤ 1048576) (H : Heap) (n : Nat) : Ret prog 34 [Zy r] H n (Zy (repT r)) H n := by
 have hsz : (Zy r).sz = 6 := Xv r
 have rA := hsz
 have rZ := hsz
 have rB := hsz
 have rC := hsz
 have rD := hsz
 have hx := hsz
 have hy := hsz
 have hnth := hsz
 have hntc := hsz
 have g1 := hsz
 have g2 := hsz
 have g3 := hsz
 have g4 := hsz
 have g5 := hsz
 have g6 := hsz
 have g7 := hsz
 have g8 := hsz
 have e1 := hsz
 have e2 := hsz
 have e3 := hsz
 have e4 := hsz
 have e5 := hsz
 have g9 := hsz
 have f1 : (n = n + 1) = False := by simp
 have f2 : (n = n + 2) = False := by simp
 have f3 : (n + 1 = n + 2) = False := by simp
 have f4 : (n + 2 = n) = False := by simp
 have f5 : (n + 2 = n + 1) = False := by simp
 have f6 : (n + 1 = n) = False := by simp
 refine Ret.fin ?_
 refine Zc func34 rfl ntmps34 (congrArg Array.toList results34) (by simp) ?_
 simp only [go_sem]
 refine Za zs [1, 2] fun K Y => ?_
 simp only [go_sem, seval, Zy, bys]
 apply Y; clear Y K
 refine Za zs [1, 2, 3] fun K Y => ?_
 simp only [go_sem, seval, Zy, bys]
 apply Y; clear Y K
 refine Zb fun K1 hK1 => ?_
 refine Za zs [1, 2, 3, 4] fun K Y => ?_
 simp only [go_sem, seval, Zy, bys]
 apply Y; clear Y K
 refine Zj ?_
 refine Yb 3 2 rfl ?_
 refine YR [1, 2, 3, 4] ?_
 simp only [go_sem, seval]
 refine Zz (fun T' H' n' => ∃ i : Nat, i ≤ r.rows.length ∧ i ≤ 1002 ∧ T' = tl [(1, .loc n 0 0 0 []), (2, .loc (n + 1) 0 0 0 []), (3, .osl (n + 2) i 0 i), (4, .int .i64 i)] ∧ H' n = some (.arr 0 6 [Zy r]) ∧ H' (n + 1) = some (.arr 0 6 [repZ]) ∧ H' (n + 2) = some (.arr i 2 (((r.rows.take i).map rowT).map ZO)) ∧ (∀ k, k < n → H' k = H k) ∧ n + 3 ≤ n') (fun T' _ _ => 1002 - iv (T' 4)) ?_ ?_
 ·exact ⟨0, Nat.zero_le _, Nat.zero_le _, rfl, by simp [Heap.put, Zy, bys], by simp [Heap.put, repZ], by simp [Heap.put], fun k hk => by (try simp only [MF]); (repeat rw [if_neg (by omega)]), Nat.le_refl _⟩
 intro T1 H1 n1
 rintro ⟨i, hi, hi2, rfl, rA, rZ, rB, hl1, hn1⟩
 obtain ⟨m, hm⟩ : ∃ m, m = n1 := ⟨_, rfl⟩
 subst hm
 obtain ⟨H5, hH5⟩ : ∃ h, h = H1 := ⟨_, rfl⟩
 subst hH5
 refine Zb fun K2 hK2 => ?_
 refine Za zs [1, 2, 3, 4, 18] fun K Y => ?_
 simp only [go_sem, seval, Zy, bys, List.length_map, Int.toNat_natCast, rA]
 repeat refine peel ?_
 apply Y; clear Y K
 refine Ze ?_ ?_ <;> intro hb
 ·have hb1 : i < r.rows.length ∧ i < 1002 := by
    have h9 := hb
    rcases Nat.lt_or_ge i r.rows.length with q | q
    ·rw [decide_eq_true (by omega)] at h9; exact ⟨q, by simp at h9; omega⟩
    ·rw [decide_eq_false (by omega)] at h9; cases h9
  have hnth : nth (r.rows.map ZO) i = ZO (r.rows.getD i default) := ZF ZO r.rows _ hb1.1
  have hsn := QF rowT r.rows hb1.1
  have hcl := hc _ (X8 r.rows hb1.1)
  generalize r.rows.getD i default = x at *
  have hx : IntKind.i64.wrap ((i : Int) + 1) = ((i + 1 : Nat) : Int) := w1 (by omega)
  have g1 : (n = m) = False := by simp; omega
  have g2 : (n + 2 = m) = False := by simp; omega
  have g3 : (n + 1 = m) = False := by simp; omega
  refine Zd ?_
  simp only [go_sem, seval, Zy, bys, Int.toNat_natCast]
  apply hK2
  clear hK2 K2
  refine Zb fun K3 hK3 => ?_
  refine Zj ?_
  refine Za zs [1, 2, 3, 4, 5] fun K Y => ?_
  simp only [go_sem, seval, Zy, ZO, bys, List.length_map, Int.toNat_natCast, rA, hnth]
  repeat refine peel ?_
  refine Zg func25 rfl rfl rfl ((Vp x.row 5000 (by decide) (by decide) _ _)) ?_
  simp only [go_sem, seval, bys]
  repeat refine peel ?_
  apply Y; clear Y K
  refine Yh (fun H' n' => H' m = some (.arr 0 2 [.agg [bys (x.row.take 5000), .nilsl]]) ∧ (∀ k, k < m → H' k = H5 k) ∧ n' = m + 1) ⟨MG _ _ _, fun k hk => ME _ _ (by omega), rfl⟩ fun H6 n6 ⟨rC, hl6, hn6⟩ => ?_
  subst hn6
  refine Za zs [1, 2, 3, 4, 5, 6] fun K Y => ?_
  simp only [go_sem, seval, Zy, bys, Int.toNat_natCast]
  apply Y; clear Y K
  refine Zb fun K4 hK4 => ?_
  refine Za zs [1, 2, 3, 4, 5, 6, 7] fun K Y => ?_
  simp only [go_sem, seval, Zy, bys, Int.toNat_natCast]
  apply Y; clear Y K
  refine Zj ?_
  refine Yb 6 4 rfl ?_
  refine YR [1, 2, 3, 4, 5, 6, 7] ?_
  simp only [go_sem, seval]
  refine Zz (fun T' H' n' => ∃ j : Nat, j ≤ x.cells.length ∧ j ≤ 20 ∧ T' = tl [(1, .loc n 0 0 0 []), (2, .loc (n + 1) 0 0 0 []), (3, .osl (n + 2) i 0 i), (4, .int .i64 i), (5, .loc m 0 0 0 []), (6, .osl (m + 1) j 0 j), (7, .int .i64 j)] ∧ H' m = some (.arr 0 2 [.agg [bys (x.row.take 5000), .nilsl]]) ∧ H' (m + 1) = some (.arr j 4 (((x.cells.take j).map celT).map Z7)) ∧ (∀ k, k < m → H' k = H5 k) ∧ m + 2 ≤ n') (fun T' _ _ => 20 - iv (T' 7)) ?_ ?_
  ·exact ⟨0, Nat.zero_le _, Nat.zero_le _, rfl, (ME _ _ (by omega)).trans rC, by simp [Heap.put], fun k hk => (ME _ _ (by omega)).trans (hl6 k hk), Nat.le_refl _⟩
  intro T1 H1 n1
  rintro ⟨j, hj, hj2, rfl, rC, rD, hl7, hn7⟩
  have rA := (hl7 n (by omega)).trans rA
  have e1 : List.take j (((x.cells.take j).map celT).map Z7) = ((x.cells.take j).map celT).map Z7 := List.take_of_length_le (by simp; omega)
  have e2 : (((x.cells.take j).map celT).map Z7).length = j := by simp; omega
  have e3 : IntKind.i64.wrap (((j + 4 : Nat) : Int) - 4) = (j : Int) := by rw [w64 (by omega) (by omega)]; omega
  refine Zb fun K5 hK5 => ?_
  refine Za zs [1, 2, 3, 4, 5, 6, 7, 43] fun K Y => ?_
  simp only [go_sem, seval, Zy, ZO, bys, List.length_map, Int.toNat_natCast, rA, hnth]
  repeat refine peel ?_
  apply Y; clear Y K
  refine Ze ?_ ?_ <;> intro hb
  ·have hb2 : j < x.cells.length ∧ j < 20 := by
     have h9 := hb
     rcases Nat.lt_or_ge j x.cells.length with q | q
     ·rw [decide_eq_true (by omega)] at h9; exact ⟨q, by simp at h9; omega⟩
     ·rw [decide_eq_false (by omega)] at h9; cases h9
   have hntc : nth (x.cells.map Z7) j = Z7 (x.cells.getD j default) := ZF Z7 x.cells _ hb2.1
   have hsc := QF celT x.cells hb2.1
   generalize x.cells.getD j default = y at *
   have hy : IntKind.i64.wrap ((j : Int) + 1) = ((j + 1 : Nat) : Int) := w1 (by omega)
   have g4 : (m + 1 = n1) = False := by simp; omega
   have g5 : (m = n1) = False := by simp; omega
   refine Zd ?_
   simp only [go_sem, seval, Zy, bys, Int.toNat_natCast]
   apply hK5
   clear hK5 K5
   refine Zb fun K6 hK6 => ?_
   refine Zj ?_
   refine Za zs [1, 2, 3, 4, 5, 6, 7, 8] fun K Y => ?_
   simp only [go_sem, seval, Zy, ZO, Z7, bys, List.length_map, Int.toNat_natCast, rA, hnth, hntc]
   repeat refine peel ?_
   apply Y; clear Y K
   refine Za zs [1, 2, 3, 4, 5, 6, 7, 8] fun K Y => ?_
   simp only [go_sem, seval, Zy, bys, Int.toNat_natCast]
   refine Zg func25 rfl rfl rfl ((Vp y.qual 5000 (by decide) (by decide) _ _)) ?_
   simp only [go_sem, seval, bys]
   apply Y; clear Y K
   refine Za zs [1, 2, 3, 4, 5, 6, 7, 8] fun K Y => ?_
   simp only [go_sem, seval, Zy, bys, Int.toNat_natCast]
   refine Zg func25 rfl rfl rfl ((Vp y.value 5000 (by decide) (by decide) _ _)) ?_
   simp only [go_sem, seval, bys]
   apply Y; clear Y K
   refine Zl zs [1, 2, 3, 4, 5, 6, 7] fun K Y => ?_
   simp only [go_sem, seval, Zy, bys, Int.toNat_natCast, rD, g4, e1, e2]
   repeat (first | refine peel ?_ | (refine And.intro ?_ ?_; · first | exact ⟨rfl, by simp [AV.sz, AV.szs, AV.memOK]⟩ | exact ⟨by omega, .inr trivial, by omega, by omega⟩))
   apply Y; clear Y K
   simp only [go_sem, seval, Zy, bys, Int.toNat_natCast]
   apply hK6
   clear hK6 K6
   refine Zl zs [1, 2, 3, 4, 5, 6, 7] fun K Y => ?_
   simp only [go_sem, seval, Zy, bys, Int.toNat_natCast, hy]
   apply Y; clear Y K
   simp only [go_sem, seval, Zy, bys, Int.toNat_natCast, rC, g5]
   refine ⟨⟨j + 1, by omega, by omega, rfl, ?_, ?_, by omega⟩, by omega⟩
   ·rw [hsc, List.map_append]; simp [celT, Z7, bys]
   ·intro k hk; rw [if_neg (by omega), if_neg (by omega)]; exact hl7 k hk
  have hgc : x.cells.take j = x.cells.take 20 := by
    have h9 := hb
    rcases Nat.lt_or_ge j x.cells.length with q | q
    ·rw [decide_eq_true (by omega)] at h9; rw [show j = 20 by simp at h9; omega]
    ·rw [List.take_of_length_le q, List.take_of_length_le (by omega)]
  refine ZA ?_
  simp only [go_sem, seval, Zy, bys, Int.toNat_natCast]
  apply hK4
  refine Za zs [1, 2, 3, 4, 5, 6] fun K Y => ?_
  simp only [go_sem, seval, Zy, bys, Int.toNat_natCast, rD, e1, e2]
  repeat (first | refine peel ?_ | refine ⟨by exact ⟨by omega, .inr trivial, by omega, by omega⟩, ?_⟩)
  apply Y; clear Y K
  refine Za zs [1, 2, 3, 4, 5] fun K Y => ?_
  simp only [go_sem, seval, Zy, bys, Int.toNat_natCast, rC, e3]
  repeat (first | refine peel ?_ | refine ⟨by exact ⟨by decide, by show (0 : Int) ≤ (j : Int); omega, by show (j : Int) ≤ ((j + 4 : Nat) : Int); omega, fun m h => h.elim⟩, ?_⟩)
  apply Y; clear Y K
  have hfz : FzV (m + 1) (j + 1) 4 (((x.cells.take j).map celT).map Z7 ++ [AV.agg [AV.int .i64 (-31), AV.nilsl, AV.int .i64 0, AV.nilsl], AV.agg [AV.int .i64 (-32), AV.nilsl, AV.int .i64 0, AV.nilsl], AV.agg [AV.int .i64 (-33), AV.nilsl, AV.int .i64 0, AV.nilsl], AV.agg [AV.int .i64 (-34), AV.nilsl, AV.int .i64 0, AV.nilsl]]) (.osl (m + 1) (j + 1) 0 j) (.sl 4 (((x.cells.take j).map celT).map Z7)) := by
    have h := FzV.osl (k := m + 1) (ver := j + 1) (e := 4) (els := ((x.cells.take j).map celT).map Z7 ++ [AV.agg [AV.int .i64 (-31), AV.nilsl, AV.int .i64 0, AV.nilsl], AV.agg [AV.int .i64 (-32), AV.nilsl, AV.int .i64 0, AV.nilsl], AV.agg [AV.int .i64 (-33), AV.nilsl, AV.int .i64 0, AV.nilsl], AV.agg [AV.int .i64 (-34), AV.nilsl, AV.int .i64 0, AV.nilsl]]) (off := 0) (len := j) (by simp; omega)
    rwa [List.drop_zero, List.take_append_of_le_length (by rw [e2]; omega), e1] at h
  refine VN (m + 1) m (ver := j + 1) (e := 4) (els := ((x.cells.take j).map celT).map Z7 ++ [AV.agg [AV.int .i64 (-31), AV.nilsl, AV.int .i64 0, AV.nilsl], AV.agg [AV.int .i64 (-32), AV.nilsl, AV.int .i64 0, AV.nilsl], AV.agg [AV.int .i64 (-33), AV.nilsl, AV.int .i64 0, AV.nilsl], AV.agg [AV.int .i64 (-34), AV.nilsl, AV.int .i64 0, AV.nilsl]]) (vj := 0) (ej := 2) (lj := [.agg [bys (x.row.take 5000), .osl (m + 1) (j + 1) 0 j]]) (lj' := [.agg [bys (x.row.take 5000), .sl 4 (((x.cells.take j).map celT).map Z7)]]) (by (try simp only [MF]); simp) (by (try simp only [MF]); simp [bys]) (by omega) ⟨FzV.agg ⟨FzV.refl _, hfz, trivial⟩, trivial⟩ ?_
  refine Yh (fun H' n' => H' m = some (.arr 0 2 [ZO (rowT x)]) ∧ (∀ k, k < m → H' k = H5 k) ∧ m + 2 ≤ n') ⟨by rw [MG, hgc]; rfl, fun k hk => by (try simp only [MF]); (repeat rw [if_neg (by omega)]); exact hl7 k hk, hn7⟩ fun H8 n8 ⟨rC, hl8, hn8⟩ => ?_
  have rB := (hl8 (n + 2) (by omega)).trans rB
  have e4 : List.take i (((r.rows.take i).map rowT).map ZO) = ((r.rows.take i).map rowT).map ZO := List.take_of_length_le (by simp; omega)
  have e5 : (((r.rows.take i).map rowT).map ZO).length = i := by simp; omega
  refine Zl zs [1, 2, 3, 4] fun K Y => ?_
  simp only [go_sem, seval, Zy, ZO, bys, Int.toNat_natCast, rB, rC, e4, e5]
  repeat (first | refine peel ?_ | (refine And.intro ?_ ?_; · first | exact ⟨rfl, by simp [AV.sz, AV.szs, AV.memOK]⟩ | exact ⟨by omega, .inr trivial, by omega, by omega⟩))
  apply Y; clear Y K
  simp only [go_sem, seval, Zy, bys, Int.toNat_natCast]
  apply hK3
  refine Zl zs [1, 2, 3, 4] fun K Y => ?_
  simp only [go_sem, seval, Zy, bys, Int.toNat_natCast, hx]
  apply Y; clear Y K
  simp only [go_sem, seval, Zy, bys, Int.toNat_natCast, f2, f3]
  refine ⟨⟨i + 1, by omega, by omega, rfl, (hl8 n (by omega)).trans (by rw [← hl7 n (by omega), rA]; simp [Zy, bys]), (hl8 (n + 1) (by omega)).trans rZ, ?_, ?_, by omega⟩, by omega⟩
  ·rw [hsn, List.map_append]; simp [ZO, bys]
  ·intro k hk; (try simp only [MF]); (repeat rw [if_neg (by omega)]); exact (hl8 k (by omega)).trans (hl1 k hk)
 have hge : r.rows.take i = r.rows.take 1002 := by
   have h9 := hb
   rcases Nat.lt_or_ge i r.rows.length with q | q
   ·rw [decide_eq_true (by omega)] at h9; rw [show i = 1002 by simp at h9; omega]
   ·rw [List.take_of_length_le q, List.take_of_length_le (by omega)]
 have g1 : (n + 2 = m) = False := by simp; omega
 have g2 : (n + 2 = m + 1) = False := by simp; omega
 have g3 : (n = m) = False := by simp; omega
 have g4 : (n = m + 1) = False := by simp; omega
 have g5 : (n + 1 = m) = False := by simp; omega
 have g6 : (n + 1 = m + 1) = False := by simp; omega
 have g7 : (m + 1 = n + 2) = False := by simp; omega
 have g8 : (m = n + 2) = False := by simp; omega
 have e4 : List.take i (((r.rows.take i).map rowT).map ZO) = ((r.rows.take i).map rowT).map ZO := List.take_of_length_le (by simp; omega)
 have e5 : (((r.rows.take i).map rowT).map ZO).length = i := by simp; omega
 have e3 : IntKind.i64.wrap (((i + 4 : Nat) : Int) - 4) = (i : Int) := by rw [w64 (by omega) (by omega)]; omega
 refine ZA ?_
 simp only [go_sem, seval, Zy, bys, Int.toNat_natCast]
 apply hK1
 refine Za zo [1, 2, 3] fun K Y => ?_
 simp only [go_sem, seval, Zy, bys, rB, g1, g2, e4, e5]
 repeat (first | refine peel ?_ | refine ⟨by exact ⟨by omega, .inr trivial, by omega, by omega⟩, ?_⟩)
 apply Y; clear Y K
 refine Za zs [1, 2] fun K Y => ?_
 simp only [go_sem, seval, Zy, bys, Int.toNat_natCast, f2, rA, g3, g4, e3, Option.getD_some, Option.getD_none, Int.toNat_zero, Nat.sub_zero]
 repeat (first | refine peel ?_ | refine ⟨by exact ⟨by omega, by show (i : Int) ≤ ((i + 4 : Nat) : Int); omega, fun m h => h.elim⟩, ?_⟩)
 apply Y; clear Y K
 refine Za zs [1, 2] fun K Y => ?_
 simp only [go_sem, seval, Zy, bys]
 refine Zg func25 rfl rfl rfl ((Vp r.token 5000 (by decide) (by decide) _ _)) ?_
 simp only [go_sem, seval, bys]
 apply Y; clear Y K
 refine Za zs [2] fun K Y => ?_
 simp only [go_sem, seval, Zy, bys, f3, f6, rZ, g5, g6]
 repeat refine peel ?_
 apply Y; clear Y K
 refine Zf ?_
 simp only [go_sem, seval, Zy, bys]
 refine ⟨_, rfl, fun k hk => by (try simp only [MF]); (repeat rw [if_neg (by omega)]); exact hl1 k hk, ?_⟩
 refine .agg (.cons (.kl trivial) (.cons (.kl trivial) (.cons (.kl trivial) (.cons (.agg (.cons (.osl (els := ((r.rows.take i).map rowT).map ZO ++ [AV.agg [AV.sl 1 [AV.int .u8 109, AV.int .u8 97, AV.int .u8 114, AV.int .u8 107], AV.nilsl], AV.agg [AV.nilsl, AV.nilsl], AV.agg [AV.nilsl, AV.nilsl], AV.agg [AV.nilsl, AV.nilsl]]) (ver := i + 1) (e := 2) ?_ (by omega) (by simp; omega) ?_) (.cons (.kl (ZJ (r.token.take 5000) _)) (.cons (.kl trivial) .nil)))) .nil))))
 ·(try simp only [MF]); simp
 ·rw [List.drop_zero, List.take_append_of_le_length (by rw [e5]; omega), e4, hge]; exact YA _ (Xl ZO (fun x => LQ x n) _)
theorem repT_fits (r : RepE) : (repT r).rows.length ≤ 1002 ∧ (∀ x ∈ (repT r).rows, x.cells.length ≤ 20) ∧ (repT r).token.length ≤ 5000 := by
 refine ⟨by simp [repT]; omega, fun x hx => ?_, by simp [repT]; omega⟩
 obtain ⟨y, _, rfl⟩ := List.mem_map.1 hx
 simp [rowT]; omega
theorem cmdB_pos (c : CmdE) : 0 < (cmdB c).length := by simp [cmdB]
theorem repB_pos (r : RepE) : 0 < (repB r).length := by
 have := Qq (u64 r.err)
 simp only [repB, List.length_append]; omega
set_option maxRecDepth 100000 in
set_option maxHeartbeats 3200000 in
theorem JJ (fs : List Fml) (hfs : fs.length ≤ 1048576) (c : CmdE) (hd : ∀ o ∈ c.ops, o.fine) (r : RepE) (hr : r.rows.length ≤ 1048576) (hc : ∀ x ∈ r.rows, x.cells.length ≤ 1048576) (hv : r.value < 9223372036854775808) (cut : Int) (hcut : -9223372036854775808 ≤ cut) (tail : List UInt8) (htl : tail.length ≤ 1048576) {H : Heap} {n : Nat} (hG : GOK 0 2 H n) :
   Ret prog 7 [Zt fs, Zh c, Zy r, .int .i64 cut, bys tail] H n (.bool true) H n := by
 have hszs : (Zt fs).sz = 1 := rfl
 have hags : (Zt fs).isAgg = true := rfl
 have hmos : (Zt fs).memOK = true := rfl
 have hca : (Zh c).isAgg = true := rfl
 have hcm : (Zh c).memOK = true := rfl
 have hra : (Zy r).isAgg = true := rfl
 have hrm : (Zy r).memOK = true := rfl
 have hrz := Xv r
 have hss : ∀ g, strip g (Zt fs) = Zt fs := fun g => by cases g <;> rfl
 have hst : ∀ g, strip g (Zh c) = Zh c := fun g => by cases g <;> rfl
 have hsr : ∀ g, strip g (Zy r) = Zy r := fun g => by cases g <;> rfl
 have hG0 := hG
 have hgk := hG.gek
 have hgt := hG.get
 have f1 : (n = n + 1) = False := by simp
 have f2 : (n = n + 2) = False := by simp
 have f3 : (n + 1 = n + 2) = False := by simp
 have bk := fun h => cmdT_back (fs := fs) hd h
 have hXf := cmdT_fits c
 obtain ⟨X, hX⟩ : ∃ X, X = cmdT c := ⟨_, rfl⟩
 have cX : ∀ (H : Heap) n, Ret prog 14 [Zh c] H n (Zh X) H n := fun H n => by rw [hX]; exact KR c H n
 rw [← hX] at bk hXf
 obtain ⟨ex, hex⟩ : ∃ e, e = ZB (qcE fs X.q) fs X := ⟨_, rfl⟩
 obtain ⟨P, hP⟩ : ∃ P, P = (if ex = 0 then cmdB X else []) := ⟨_, rfl⟩
 have cE : ∀ (H : Heap), H 0 = some (.glob 5 XX) → H 2 = some (.glob 1 Vx) → ∀ n, Ret prog 17 [Zt fs, Zh X] H n (.tup [bys P, .int .i64 ex]) H n := fun H ha hb n => Ret.below ha fun g1 => Ret.below hb fun g2 => by rw [hP, hex]; exact q_Encode fs hfs X hXf ⟨ha, hb, g1, g2⟩
 rw [← hex] at bk
 have hPl : P.length ≤ 98304 := by
   rw [hP]; split
   ·rename_i h0; exact (Uz (bk h0).ok).2.2.2.2.2.2.2.2.2.2.2
   ·simp
 have cR : ex = 0 → ∀ k : Int, -9223372036854775808 ≤ k → ∀ (H : Heap) n, GOK 0 2 H n → Ret prog 32 [Zt fs, bys P, .int .i64 k, bys tail, .bool false] H n (.bool true) H n := fun h0 k hk H n hG => by
   rw [hP, if_pos h0]
   exact Kh fs hfs (cmdB X) (cmdB_pos X) (by rw [hP, if_pos h0] at hPl; exact hPl) (fun j hj => decC_cut (fun q => LC) (bk h0) hj) (fun v hv => decC_long (fun q => LC) (bk h0) hv) k hk tail htl hG
 clear hP hex hX bk
 have e1 : IntKind.i64.wrap ((P.length : Int) - 1) = (P.length : Int) - 1 := w64 (by omega) (by omega)
 obtain ⟨g1, g2, g3⟩ := repT_fits r
 have hvR : (repT r).value < 9223372036854775808 := hv
 obtain ⟨R, hR⟩ : ∃ R, R = repT r := ⟨_, rfl⟩
 have cP : ∀ (H : Heap) n, Ret prog 34 [Zy r] H n (Zy R) H n := fun H n => by rw [hR]; exact c_law14_page r hr hc H n
 rw [← hR] at g1 g2 g3 hvR
 have hb0 : (encR R).2 = 0 → (encR R).1 = repB R ∧ YU R = true ∧ (repB R).length ≤ 1048576 := fun h => by
   unfold encR at h ⊢
   split at h
   ·exact absurd h (by decide)
   ·rename_i h1
    split at h
    ·exact absurd h (by decide)
    ·rename_i h2
     rw [if_neg h1, if_neg h2]
     exact ⟨rfl, by simpa using h1, by omega⟩
 have hbl : (encR R).1.length ≤ 1048576 := by
   unfold encR
   split
   ·simp
   ·split
    ·simp
    ·rename_i h2; exact Nat.le_of_not_lt (by simpa using h2)
 have cE2 : ∀ (H : Heap) n, Ret prog 33 [Zy R] H n (.tup [bys (encR R).1, .int .i64 (encR R).2]) H n := fun H n => Vk R (by omega) (fun x hx => by have := g2 x hx; omega) (by omega) H n
 obtain ⟨E, hE⟩ : ∃ E, E = encR R := ⟨_, rfl⟩
 rw [← hE] at hb0 hbl cE2
 have cR2 : E.2 = 0 → ∀ k : Int, -9223372036854775808 ≤ k → ∀ (H : Heap) n, Ret prog 32 [Zt fs, bys E.1, .int .i64 k, bys tail, .bool true] H n (.bool true) H n := fun h0 k hk H n => by
   obtain ⟨q1, q2, q3⟩ := hb0 h0
   have hB : WW R := ⟨q2, hvR, fun x hx => by have := g2 x hx; omega, by omega⟩
   rw [q1]
   exact Kg fs (repB R) (repB_pos R) q3 (fun j hj => decR_cut hB q3 hj) (fun v hv => decR_long hB hv) k hk tail htl
 clear hE hR hb0
 have e2 : IntKind.i64.wrap ((E.1.length : Int) - 1) = (E.1.length : Int) - 1 := w64 (by omega) (by omega)
 refine Ret.fin ?_
 refine Zc func7 rfl ntmps7 (congrArg Array.toList results7) (by simp) ?_
 simp only [go_sem]
 refine Za zs [3, 4, 5, 6, 7] fun K Y => ?_
 simp only [go_sem, seval, hcm, hrm, hrz, Yy]
 apply Y; clear Y K
 refine Zb fun K1 hK1 => ?_
 refine Za zs [3, 4, 5, 6, 7, 14] fun K Y => ?_
 simp only [go_sem, seval]
 refine Zg func12 rfl rfl rfl ((c_law14_told (hG.on (fun k hk => by (try simp only [MF]); (repeat rw [if_neg (by omega)])) (by omega)))) ?_
 simp only [go_sem, seval]
 apply Y; clear Y K
 refine Ze ?_ ?_ <;> intro hb
 ·exact absurd hb (by decide) --dead
 refine Zd ?_
 simp only [go_sem, seval]
 apply hK1
 clear hK1 K1
 refine YJ rfl zs [3, 4, 5, 7, 11, 12] [.q, .q, .c, .c, .m, .q, .q, .q, .q] (by kernel_rfl) (fun _ _ _ _ _ h => h) fun K Y => ?_
 simp only [go_sem, seval, hca, hst, Yy, f1, f2, f3]
 refine ZR func14 rfl rfl rfl (fun _ n => (cX _ _)) ?_
 refine ZR func17 rfl rfl rfl (fun _ n => (cE _ (by (try simp only [MF]); (repeat rw [if_neg (by omega)]); exact hG.kinds) (by (try simp only [MF]); (repeat rw [if_neg (by omega)]); exact hG.table) n)) ?_
 simp only [go_sem, seval]
 apply Y; clear Y K
 refine Zb fun K2 hK2 => ?_
 refine Za zs [3, 4, 5, 7, 41] fun K Y => ?_
 simp only [go_sem, seval, f1, f2]
 refine Zv func32 rfl rfl rfl (fun hg => cR (by simpa using hg) cut hcut _ _ (hG.on (fun k hk => by (try simp only [MF]); (repeat rw [if_neg (by omega)])) (by omega))) ?_
 simp only [go_sem, seval, f1, f2, e1, List.length_map]
 refine Zv func32 rfl rfl rfl (fun hg => cR (by simpa using hg) _ (by omega) _ _ (hG.on (fun k hk => by (try simp only [MF]); (repeat rw [if_neg (by omega)])) (by omega))) ?_
 simp only [go_sem, seval]
 repeat refine peel ?_
 apply Y; clear Y K
 refine Ze ?_ ?_ <;> intro hb
 ·exact absurd hb (by simp) --dead
 refine Zd ?_
 simp only [go_sem, seval]
 apply hK2
 clear hK2 K2
 refine Za zs [3, 4, 5, 11, 12] fun K Y => ?_
 simp only [go_sem, seval, hra, hrz]
 refine Zg func34 rfl rfl rfl ((cP _ _)) ?_
 refine Zg func33 rfl rfl rfl ((cE2 _ _)) ?_
 simp only [go_sem, seval]
 apply Y; clear Y K
 refine Za zs [10] fun K Y => ?_
 simp only [go_sem, seval, f1, f2]
 refine Zv func32 rfl rfl rfl (fun hg => cR2 (by simpa using hg) cut hcut _ _) ?_
 simp only [go_sem, seval, f1, f2, e2, List.length_map]
 refine Zv func32 rfl rfl rfl (fun hg => cR2 (by simpa using hg) _ (by omega) _ _) ?_
 simp only [go_sem, seval]
 repeat refine peel ?_
 apply Y; clear Y K
 refine Zf ?_
 simp only [go_sem, seval]
 exact ⟨_, rfl, fun k hk => by repeat rw [if_neg (by omega)], X9 (by cases (E.2 != 0) <;> rfl)⟩
end Go.Proofs.YtifnhpmeoogedaaGreatDoor