/- Own layer: the walk through the check of a command. Of the program; no condition. -/
import Derived.Test.YtifnhpmeoogedaaGreatDoorPG
import Derived.Test.YtifnhpmeoogedaaGreatDoorPF
set_option linter.unusedSimpArgs false
set_option linter.unusedVariables false
namespace Go.Proofs.YtifnhpmeoogedaaGreatDoor
open Go Go.Sx Go.Rt Go.Proofs Tryz
set_option maxRecDepth 100000 in
set_option maxHeartbeats 3200000 in
theorem Xx (s : List Fml) (hs : s.length ≤ 2000000) (c : CmdE) (hc : c.fits) (qc : Int) (hq : Yd c.kind = true → ∀ H n, GOK 0 2 H n → Ret prog 53 [Zt s, Zq c.q] H n (.int .i64 qc) H n) (H : Heap) (n : Nat) (hG : GOK 0 2 H n) :
   Ret prog 15 [Zt s, Zh c] H n (.int .i64 (ZB qc s c)) H n := by
 have hkl : XX.length = 8 := rfl
 have hsz : (Zh c).sz = 17 := Yy c
 have hszs : (Zt s).sz = 1 := rfl
 have hags : (Zt s).isAgg = true := rfl
 have hmos : (Zt s).memOK = true := rfl
 have hagq : (Zq c.q).isAgg = true := rfl
 have hszq : (Zq c.q).sz = 10 := Yj c.q
 have hmoq : (Zq c.q).memOK = true := rfl
 have hk0 := hG.gek
 have hkn : (0 : Nat) = 0 := rfl
 have k1 := hkn
 have k2 := hkn
 have k3 := hkn
 have hkg := hkn
 refine Ret.fin ?_
 refine Zc func15 rfl ntmps15 (congrArg Array.toList results15) (by simp) ?_
 simp only [go_sem]
 refine Za zs [2, 3] fun K Y => ?_
 simp only [go_sem, seval, hszq, Zh]
 apply Y; clear Y K
 refine Zb fun K1 hK1 => ?_
 refine Yh (fun H' n' => H' n = some (.arr 0 1 [Zt s]) ∧ H' (n + 1) = some (.arr 0 17 [Zh c]) ∧ n' = n + 2 ∧ ∀ k, k < n → H' k = H k) ⟨by simp [Heap.put, Zt], by simp [Heap.put, Zh, bys], rfl, fun k hk => by simp only [MF]; repeat rw [if_neg (by omega)]⟩ fun H1 n1 ⟨k1, k2, e9, k4⟩ => ?_
 subst e9
 have hkg := (k4 0 hk0).trans hG.kinds
 refine Za zs [2, 3, 11] fun K Y => ?_
 simp only [go_sem, seval, k1, Zt]
 refine Zg func47 rfl rfl rfl ((Xt s _ _)) ?_
 simp only [go_sem, seval]
 apply Y; clear Y K
 refine Ze ?_ ?_ <;> intro hb
 ·have g1 : (Z8 s != 0) = true := hb
  have hres : ZB qc s c = 28 := by unfold ZB; rw [if_pos g1]
  refine Za zs [4] fun K Y => ?_
  simp only [go_sem, seval]
  apply Y; clear Y K
  refine Zf ?_
  simp only [go_sem, seval]
  exact ⟨_, rfl, k4, Frz.eq (by rw [hres]) trivial⟩
 have g1 : ¬ (Z8 s != 0) = true := by rw [show (Z8 s != 0) = false from hb]; simp
 refine Zd ?_
 simp only [go_sem, seval]
 apply hK1
 clear hK1 K1
 refine Zb fun K2 hK2 => ?_
 refine Za zs [2, 3, 14] fun K Y => ?_
 simp only [go_sem, seval, k2, Zh]
 refine Zg func48 rfl rfl rfl ((ZU c.kind 1 7 _ _)) ?_
 apply Y; clear Y K
 refine Ze ?_ ?_ <;> intro hb
 ·have g2 : bout c.kind 1 7 = true := hb
  have hres : ZB qc s c = 141 := by unfold ZB; rw [if_neg g1, if_pos g2]
  refine Za zs [4] fun K Y => ?_
  simp only [go_sem, seval]
  apply Y; clear Y K
  refine Zf ?_
  simp only [go_sem, seval]
  exact ⟨_, rfl, k4, Frz.eq (by rw [hres]) trivial⟩
 have g2b := Wn (show bout c.kind 1 7 = false from hb)
 have g2 : ¬ bout c.kind 1 7 = true := by rw [show bout c.kind 1 7 = false from hb]; simp
 have hkn : nth XX c.kind.toNat = Zo c.kind := QY (by omega) (by omega)
 refine Zd ?_
 simp only [go_sem, seval]
 apply hK2
 clear hK2 K2
 refine Za zs [2, 3, 5] fun K Y => ?_
 simp only [go_sem, seval, hkl, hkg, k2, hkn, Zh, Zo]
 repeat refine peel ?_
 apply Y; clear Y K
 refine Yh (fun H' n' => H' n = some (.arr 0 1 [Zt s]) ∧ H' (n + 1) = some (.arr 0 17 [Zh c]) ∧ H' (n + 2) = some (.arr 0 5 [Zo c.kind]) ∧ n' = n + 3 ∧ ∀ k, k < n → H' k = H k) ⟨by simp [Heap.put, k1], by simp [Heap.put, k2], by simp [Heap.put, Zo], rfl, fun k hk => by simp only [MF]; (repeat rw [if_neg (by omega)]); exact k4 k hk⟩ fun H1 n1 ⟨k1, k2, k3, e9, k4⟩ => ?_
 subst e9
 have hG1 : GOK 0 2 H1 (n + 3) := hG.on k4 (by omega)
 refine Za zs [2, 3, 5, 6] fun K Y => ?_
 simp only [go_sem, seval]
 apply Y; clear Y K
 refine Yi [2, 3, 5, 6] (fun T' H' n' => T' = tl [(2, .loc n 0 0 0 []), (3, .loc (n + 1) 0 0 0 []), (5, .loc (n + 2) 0 0 0 []), (6, .int .i64 (if ZQ c.kind || YQ c.kind then 1099511627776 else 0))] ∧ H' = H1 ∧ n' = n + 3) ?_ ?_
 ·refine Za zs [2, 3, 5, 6, 24] fun K Y => ?_
  simp only [go_sem, seval, k3, Zo]
  repeat refine peel ?_
  apply Y; clear Y K
  refine Ze ?_ ?_ <;> intro hb
  ·have hb4 : (ZQ c.kind || YQ c.kind) = true := by cases h : ZQ c.kind <;> simp_all
   refine Zl zs [2, 3, 5, 6] fun K Y => ?_
   simp only [go_sem, seval]
   apply Y; clear Y K
   simp only [go_sem, seval]
   (rw [if_pos hb4]; done)
  have hb4 : (ZQ c.kind || YQ c.kind) = false := by cases h : ZQ c.kind <;> simp_all
  refine Zd ?_
  simp only [go_sem, seval]
  (rw [if_neg (by rw [hb4]; simp)]; done)
 rintro T1 H2 n1 ⟨rfl, rfl, rfl⟩
 refine Za zs [2, 3, 5, 6, 7] fun K Y => ?_
 simp only [go_sem, seval]
 apply Y; clear Y K
 refine Yi [2, 3, 5, 6, 7] (fun T' H' n' => T' = tl [(2, .loc n 0 0 0 []), (3, .loc (n + 1) 0 0 0 []), (5, .loc (n + 2) 0 0 0 []), (6, .int .i64 (if ZQ c.kind || YQ c.kind then 1099511627776 else 0)), (7, .int .i64 (if ZQ c.kind then 1 else 0))] ∧ H' = H2 ∧ n' = n + 3) ?_ ?_
 ·refine Za zs [2, 3, 5, 6, 7, 26] fun K Y => ?_
  simp only [go_sem, seval, k3, Zo]
  apply Y; clear Y K
  refine Ze ?_ ?_ <;> intro hb
  ·have hb5 : ZQ c.kind = true := hb
   refine Zl zs [2, 3, 5, 6, 7] fun K Y => ?_
   simp only [go_sem, seval]
   apply Y; clear Y K
   simp only [go_sem, seval]
   simp [hb5]
  have hb5 : ZQ c.kind = false := hb
  refine Zd ?_
  simp only [go_sem, seval]
  simp [hb5]
 rintro T1 H3 n1 ⟨rfl, rfl, rfl⟩
 refine Zb fun K3 hK3 => ?_
 refine Zj ?_
 refine Za zs [2, 3, 5, 27] fun K Y => ?_
 simp only [go_sem, seval, k2, Zh]
 refine Zg func48 rfl rfl rfl ((ZU c.client _ _ _ _)) ?_
 simp only [go_sem, seval]
 apply Y; clear Y K
 refine Ze ?_ ?_ <;> intro hb
 ·have g3 : cb3 c = true := hb
  have hres : ZB qc s c = 142 := by unfold ZB; rw [if_neg g1, if_neg g2, if_pos g3]
  refine Za zs [4] fun K Y => ?_
  simp only [go_sem, seval]
  apply Y; clear Y K
  refine Zf ?_
  simp only [go_sem, seval]
  exact ⟨_, rfl, k4, Frz.eq (by rw [hres]) trivial⟩
 have g3 : ¬ cb3 c = true := by rw [show cb3 c = false from hb]; simp
 refine Za zs [2, 3, 5, 33] fun K Y => ?_
 simp only [go_sem, seval, k2, Zh]
 refine Zg func48 rfl rfl rfl ((ZU c.serial 0 1099511627776 _ _)) ?_
 simp only [go_sem, seval, k2, Zh]
 repeat refine peel ?_
 apply Y; clear Y K
 refine Ze ?_ ?_ <;> intro hb
 ·have g4 : cb4 c = true := by simpa [cb4] using hb
  have hres : ZB qc s c = 143 := by unfold ZB; rw [if_neg g1, if_neg g2, if_neg g3, if_pos g4]
  refine Za zs [4] fun K Y => ?_
  simp only [go_sem, seval]
  apply Y; clear Y K
  refine Zf ?_
  simp only [go_sem, seval]
  exact ⟨_, rfl, k4, Frz.eq (by rw [hres]) trivial⟩
 have g4 : ¬ cb4 c = true := by rw [show cb4 c = false by simpa [cb4] using hb]; simp
 refine Za zs [2, 3, 5, 46] fun K Y => ?_
 simp only [go_sem, seval, k2, k3, Zh, Zo, List.length_map]
 refine Zv func48 rfl rfl rfl (fun _ => (ZU c.row.length 1 256 _ _)) ?_
 simp only [go_sem, seval, k2, k3, Zh, Zo, List.length_map]
 repeat (first | refine peel ?_ | refine ⟨by (intro _ h1; rw [h1]; rfl), ?_⟩)
 apply Y; clear Y K
 refine Ze ?_ ?_ <;> intro hb
 ·have g5 : cb5 c = true := by simpa [cb5] using hb
  have hres : ZB qc s c = 20 := by unfold ZB; rw [if_neg g1, if_neg g2, if_neg g3, if_neg g4, if_pos g5]
  refine Za zs [4] fun K Y => ?_
  simp only [go_sem, seval]
  apply Y; clear Y K
  refine Zf ?_
  simp only [go_sem, seval]
  exact ⟨_, rfl, k4, Frz.eq (by rw [hres]) trivial⟩
 have g5 : ¬ cb5 c = true := by rw [show cb5 c = false by simpa [cb5] using hb]; simp
 refine Za zs [2, 3, 5, 66] fun K Y => ?_
 simp only [go_sem, seval, k1, k2, k3, Zh, Zo, List.length_map]
 repeat (first | refine peel ?_ | refine ⟨by (intro _ h1; rw [h1]; rfl), ?_⟩)
 refine Zv func49 rfl rfl rfl (fun _ => (KO s hs c.conds hc.conds _ _)) ?_
 simp only [go_sem, seval]
 repeat (first | refine peel ?_ | refine ⟨by (intro _ h1; rw [h1]; rfl), ?_⟩)
 apply Y; clear Y K
 refine Ze ?_ ?_ <;> intro hb
 ·have g6 : cb6 s.length c = true := by simpa [cb6] using hb
  have hres : ZB qc s c = 146 := by unfold ZB; rw [if_neg g1, if_neg g2, if_neg g3, if_neg g4, if_neg g5, if_pos g6]
  refine Za zs [4] fun K Y => ?_
  simp only [go_sem, seval]
  apply Y; clear Y K
  refine Zf ?_
  simp only [go_sem, seval]
  exact ⟨_, rfl, k4, Frz.eq (by rw [hres]) trivial⟩
 have g6 : ¬ cb6 s.length c = true := by rw [show cb6 s.length c = false by simpa [cb6] using hb]; simp
 refine Za zs [2, 3, 5, 89] fun K Y => ?_
 simp only [go_sem, seval, k2, k3, Zh, Zo, List.length_map]
 refine Zv func48 rfl rfl rfl (fun _ => (ZU c.ops.length 1 16 _ _)) ?_
 simp only [go_sem, seval, k2, k3, Zh, Zo, List.length_map]
 repeat (first | refine peel ?_ | refine ⟨by (intro _ h1; rw [h1]; rfl), ?_⟩)
 apply Y; clear Y K
 refine Ze ?_ ?_ <;> intro hb
 ·have g7 : cb7 c = true := by simpa [cb7] using hb
  have hres : ZB qc s c = 144 := by unfold ZB; rw [if_neg g1, if_neg g2, if_neg g3, if_neg g4, if_neg g5, if_neg g6, if_pos g7]
  refine Za zs [4] fun K Y => ?_
  simp only [go_sem, seval]
  apply Y; clear Y K
  refine Zf ?_
  simp only [go_sem, seval]
  exact ⟨_, rfl, k4, Frz.eq (by rw [hres]) trivial⟩
 have g7 : ¬ cb7 c = true := by rw [show cb7 c = false by simpa [cb7] using hb]; simp
 refine Za zs [2, 3, 5, 109] fun K Y => ?_
 simp only [go_sem, seval, k1, k2, Zh]
 refine Zg func51 rfl rfl rfl ((KN s hs c.ops hc.ops _ _)) ?_
 simp only [go_sem, seval]
 apply Y; clear Y K
 refine Ze ?_ ?_ <;> intro hb
 ·have g8 : cb8 s.length c = true := by simpa [cb8] using hb
  have hres : ZB qc s c = 145 := by unfold ZB; rw [if_neg g1, if_neg g2, if_neg g3, if_neg g4, if_neg g5, if_neg g6, if_neg g7, if_pos g8]
  refine Za zs [4] fun K Y => ?_
  simp only [go_sem, seval]
  apply Y; clear Y K
  refine Zf ?_
  simp only [go_sem, seval]
  exact ⟨_, rfl, k4, Frz.eq (by rw [hres]) trivial⟩
 have g8 : ¬ cb8 s.length c = true := by rw [show cb8 s.length c = false by simpa [cb8] using hb]; simp
 refine Za zs [2, 3, 5, 115] fun K Y => ?_
 simp only [go_sem, seval, k2, k3, Zh, Zo]
 repeat refine peel ?_
 refine Zv func48 rfl rfl rfl (fun _ => (ZU c.n (Yn c.kind) 1099511627776 _ _)) ?_
 simp only [go_sem, seval]
 repeat (first | refine peel ?_ | refine ⟨by (intro _ h1; rw [h1]; rfl), ?_⟩)
 apply Y; clear Y K
 refine Ze ?_ ?_ <;> intro hb
 ·have g9 : cb9 c = true := by simpa [cb9] using hb
  have hres : ZB qc s c = 148 := by unfold ZB; rw [if_neg g1, if_neg g2, if_neg g3, if_neg g4, if_neg g5, if_neg g6, if_neg g7, if_neg g8, if_pos g9]
  refine Za zs [4] fun K Y => ?_
  simp only [go_sem, seval]
  apply Y; clear Y K
  refine Zf ?_
  simp only [go_sem, seval]
  exact ⟨_, rfl, k4, Frz.eq (by rw [hres]) trivial⟩
 have g9 : ¬ cb9 c = true := by rw [show cb9 c = false by simpa [cb9] using hb]; simp
 refine Zd ?_
 simp only [go_sem, seval]
 apply hK3
 clear hK3 K3
 refine Yi [3] (fun T' H' n' => T' = tl [(3, .loc (n + 1) 0 0 0 [])] ∧ H' (n + 1) = some (.arr 0 17 [Zh c]) ∧ n' = n + 3 ∧ ZB qc s c = WY c ∧ ∀ k, k < n → H' k = H k) ?_ ?_
 ·refine Za zs [2, 3, 137] fun K Y => ?_
  simp only [go_sem, seval, k3, Zh, Zo]
  apply Y; clear Y K
  refine Ze ?_ ?_ <;> intro hb
  ·have g10 : Yd c.kind = true := hb
   refine Za zs [3, 8] fun K Y => ?_
   simp only [go_sem, seval, hagq, hszq, k1, k2, Zh]
   refine Zg func53 rfl rfl rfl ((hq g10 _ _ hG1)) ?_
   simp only [go_sem, seval]
   apply Y; clear Y K
   refine Za zs [3, 8, 143] fun K Y => ?_
   simp only [go_sem, seval, Zh]
   apply Y; clear Y K
   refine Ze ?_ ?_ <;> intro hb
   ·have g11 : (qc != 0) = true := hb
    have hres : ZB qc s c = qc := by unfold ZB; rw [if_neg g1, if_neg g2, if_neg g3, if_neg g4, if_neg g5, if_neg g6, if_neg g7, if_neg g8, if_neg g9, if_pos g10, if_pos g11]
    refine Za zs [4] fun K Y => ?_
    simp only [go_sem, seval, Zh]
    apply Y; clear Y K
    refine Zf ?_
    simp only [go_sem, seval, Zh]
    exact ⟨_, rfl, k4, Frz.eq (by rw [hres]) trivial⟩
   have hres : ZB qc s c = WY c := by unfold ZB; rw [if_neg g1, if_neg g2, if_neg g3, if_neg g4, if_neg g5, if_neg g6, if_neg g7, if_neg g8, if_neg g9, if_pos g10, if_neg (by rw [show (qc != 0) = false from hb]; simp)]
   refine Zd ?_
   simp only [go_sem, seval, k2, Zh]
   exact ⟨hres, k4⟩
  have g10 : ¬ Yd c.kind = true := by rw [show Yd c.kind = false from hb]; simp
  refine Za zs [3, 149] fun K Y => ?_
  simp only [go_sem, seval, hagq, hszq, k2, Zh]
  refine Zg func54 rfl rfl rfl (((VX c.q zq hc.fams _ _).wk ⟨.refl _, .agg ⟨.nilsl 1, .nilsl 1, .nilsl 1, .nilsl 1, .refl _, .refl _, .refl _, .refl _, .refl _, .nilsl 1, trivial⟩, trivial⟩)) ?_
  simp only [go_sem, seval]
  apply Y; clear Y K
  refine Ze ?_ ?_ <;> intro hb
  ·have hres : ZB qc s c = 130 := by unfold ZB; rw [if_neg g1, if_neg g2, if_neg g3, if_neg g4, if_neg g5, if_neg g6, if_neg g7, if_neg g8, if_neg g9, if_neg g10, if_pos hb]
   refine Za zs [4] fun K Y => ?_
   simp only [go_sem, seval, Zh]
   apply Y; clear Y K
   refine Zf ?_
   simp only [go_sem, seval, Zh]
   exact ⟨_, rfl, k4, Frz.eq (by rw [hres]) trivial⟩
  have hres : ZB qc s c = WY c := by unfold ZB; rw [if_neg g1, if_neg g2, if_neg g3, if_neg g4, if_neg g5, if_neg g6, if_neg g7, if_neg g8, if_neg g9, if_neg g10, if_neg (by rw [hb]; simp)]
  refine Zd ?_
  simp only [go_sem, seval, k2, Zh]
  exact ⟨hres, k4⟩
 rintro T1 H4 n1 ⟨rfl, k2, rfl, hres0, k4⟩
 refine Zb fun K4 hK4 => ?_
 refine Za zs [153] fun K Y => ?_
 simp only [go_sem, seval, hszq, k2, Zh]
 refine Zg func55 rfl rfl rfl ((Wj c hc (by omega) (by omega) _ _ (hG.on k4 (by omega)))) ?_
 simp only [go_sem, seval, List.length_map]
 apply Y; clear Y K
 refine Ze ?_ ?_ <;> intro hb
 ·have hres : ZB qc s c = 2 := by rw [hres0, WY, if_pos (by simpa using hb)]
  refine Za zs [4] fun K Y => ?_
  simp only [go_sem, seval]
  apply Y; clear Y K
  refine Zf ?_
  simp only [go_sem, seval]
  exact ⟨_, rfl, k4, Frz.eq (by rw [hres]) trivial⟩
 have hres : ZB qc s c = 0 := by rw [hres0, WY, if_neg (by simpa using hb)]
 refine Zd ?_
 simp only [go_sem, seval]
 apply hK4
 clear hK4 K4
 refine Za zs [4] fun K Y => ?_
 simp only [go_sem, seval]
 apply Y; clear Y K
 refine Zf ?_
 simp only [go_sem, seval]
 exact ⟨_, rfl, k4, Frz.eq (by rw [hres]) trivial⟩
def QR (kc kk : Nat) : List (Nat × List AV) := [(66, [.loc kc 0 0 0 [], .loc kk 0 0 0 []]), (68, [.loc kk 0 0 0 [], .loc kc 0 0 0 []]), (70, [.loc kk 0 0 0 [], .loc kc 0 0 0 []]), (74, [.loc kk 0 0 0 [], .loc kc 0 0 0 []]), (75, [.loc kk 0 0 0 [], .loc kc 0 0 0 []])]
theorem KM {b : List UInt8} (hb9 : b.length ≤ 1048576) {kc kk : Nat} {H : Heap} {n : Nat} (hG : GOK 0 2 H n) (hc : kc < n) (hk : kk < n) (h23 : kc ≠ kk) (hgc : 0 < kc) (hgk : 0 < kk) (htc : 2 < kc) (htk : 2 < kk) (hC : H kc = some (.arr 0 17 [Zh zc])) (hD : H kk = some (.arr 0 5 [Zo 0])) :
   Zx prog 65 [bys b, .sl 1 ((QR kc kk).map fun x => .fn (.func x.1) [] x.2)] H n (fun res H' n' => n + 2 ≤ n' ∧ (∀ k, k < n → k ≠ kc → k ≠ kk → H' k = H k) ∧ ∃ v, res = .val (.bool v) ∧ ((v = true ∧ ∃ c, Wv b = some c ∧ H' kc = some (.arr 0 17 [Zh c])) ∨ (v = false ∧ Wv b = none))) := by
 refine (QK hb9 (QR kc kk) (by simp [QR]) (H := H) (n := n)
   (fun i p H2 n2 => n ≤ n2 ∧ (∃ c, rch b i = some (c, p) ∧ H2 kc = some (.arr 0 17 [Zh c]) ∧ H2 kk = some (.arr 0 5 [Zo c.kind])) ∧ ∀ k, k < n → k ≠ kc → k ≠ kk → H2 k = H k)
   (fun H2 => rch b 5 = none ∧ ∀ k, k < n → k ≠ kc → k ≠ kk → H2 k = H k) ?_ ?_ ⟨Nat.le_refl _, ⟨zc, rfl, hC, hD⟩, fun _ _ _ _ => rfl⟩ ?_).mono ?_
 ·rintro i p H2 n2 H3 n3 ⟨h0, ⟨c, h1, h2, h3⟩, h4⟩ h5 h6
  exact ⟨by omega, ⟨c, h1, (h5 kc (by omega) (by omega) (by omega)).trans h2, (h5 kk (by omega) (by omega) (by omega)).trans h3⟩, fun k g1 g2 g3 => (h5 k (by omega) (by omega) (by omega)).trans (h4 k g1 g2 g3)⟩
 ·rintro H2 H3 ⟨h1, h2⟩ h3
  exact ⟨h1, fun k g1 g2 g3 => (h3 k g1).trans (h2 k g1 g2 g3)⟩
 ·rintro i x hx p H2 n2 hp hn hR ⟨_, ⟨c, h1, h2, h3⟩, h4⟩
  have hi : i < 5 := by
    have := (List.getElem?_eq_some_iff.1 hx).1
    simpa [QR] using this
  have fin : ∀ {f : Nat} {args : List AV}, Zx prog f args H2 n2 (StK torn (n + 1) kc kk b H2 n2 (rsi i b c p)) → Zx prog f args H2 n2 (fun res H3 n3 =>
      (∃ q, res = .val (.tup []) ∧ q ≤ b.length ∧ H3 (n + 1) = some (rdO b q) ∧ H3 n = H2 n ∧ n2 ≤ n3 ∧ (n ≤ n3 ∧ (∃ c, rch b (i + 1) = some (c, q) ∧ H3 kc = some (.arr 0 17 [Zh c]) ∧ H3 kk = some (.arr 0 5 [Zo c.kind])) ∧ ∀ k, k < n → k ≠ kc → k ≠ kk → H3 k = H k)) ∨ (res = .pan torn ∧ H3 n = H2 n ∧ n2 ≤ n3 ∧ (rch b 5 = none ∧ ∀ k, k < n → k ≠ kc → k ≠ kk → H3 k = H k))) := fun h => h.mono fun res H3 n3 hh => by
    have hr : rch b (i + 1) = rsi i b c p := by show (rch b i).bind _ = _; rw [h1]; rfl
    cases hs : rsi i b c p with
    | some y =>
      rw [hs] at hh
      obtain ⟨g1, g2, g3, g4, g5, g6, g7⟩ := hh
      exact .inl ⟨y.2, g1, g3, g4, g7 n (by omega) (by omega) (by omega) (by omega), by omega, by omega, ⟨y.1, by rw [hr, hs], g5, g6⟩, fun k e1 e2 e3 => (g7 k (by omega) (by omega) e2 e3).trans (h4 k e1 e2 e3)⟩
    | none =>
      rw [hs] at hh
      obtain ⟨g1, g2, g7⟩ := hh
      exact .inr ⟨g1, g7 n (by omega) (by omega) (by omega) (by omega), g2, rch_dead (by rw [hr, hs]) hi, fun k e1 e2 e3 => (g7 k (by omega) (by omega) e2 e3).trans (h4 k e1 e2 e3)⟩
  have hG2 : GOK 0 2 H2 n2 := ⟨(h4 0 hG.gek (by omega) (by omega)).trans hG.kinds, (h4 2 hG.get (by omega) (by omega)).trans hG.table, by have := hG.gek; omega, by have := hG.get; omega⟩
  have hi' : i = 0 ∨ i = 1 ∨ i = 2 ∨ i = 3 ∨ i = 4 := by omega
  rcases hi' with rfl | rfl | rfl | rfl | rfl <;> (simp only [QR, List.getElem?_cons_zero, List.getElem?_cons_succ, Option.some.injEq] at hx; subst hx)
  ·simp only [rch, Option.some.injEq, Prod.mk.injEq] at h1
   exact ⟨⟨_, func66, rfl, rfl⟩, fin (JI hb9 hp h1.1.symm hG2 (by have := hG.gek; omega) hgc hgk (by omega) (by omega) (by omega) (by omega) (by omega) h23 hR h2 h3)⟩
  ·exact ⟨⟨_, func68, rfl, rfl⟩, fin (JH hb9 hp (by omega) (by omega) (by omega) (by omega) (by omega) h23 hR h2 h3)⟩
  ·exact ⟨⟨_, func70, rfl, rfl⟩, fin (JG hb9 hp (by omega) (by omega) (by omega) (by omega) (by omega) h23 hR h2 h3)⟩
  ·exact ⟨⟨_, func74, rfl, rfl⟩, fin (JF hb9 hp (by omega) (by omega) (by omega) (by omega) (by omega) h23 hR h2 h3)⟩
  ·exact ⟨⟨_, func75, rfl, rfl⟩, fin (JE hb9 hp (by omega) (by omega) (by omega) (by omega) (by omega) h23 hR h2 h3)⟩
 ·rintro res H' n' ⟨hn, ⟨p, hp, rfl, _, ⟨c, h1, h2, h3⟩, h4⟩ | ⟨rfl, h1, h4⟩⟩
  ·refine ⟨hn, h4, _, rfl, ?_⟩
   rw [rdCmd_rch, show (QR kc kk).length = 5 from rfl] at *
   rw [h1, Option.bind_some]
   by_cases e : p = b.length
   ·exact .inl ⟨by simp [e], c, by simp [e], h2⟩
   ·exact .inr ⟨by simp; omega, by simp [e]⟩
  ·exact ⟨hn, h4, _, rfl, .inr ⟨rfl, by rw [rdCmd_rch, h1]; rfl⟩⟩
set_option maxRecDepth 100000 in
set_option maxHeartbeats 3200000 in
theorem WA (s : List Fml) (hs : s.length ≤ 2000000) (b : List UInt8) (hb9 : b.length ≤ 1099511627776) (qc : QryE → Int) {H : Heap} {n : Nat} (hG : GOK 0 2 H n)
   (hq : ∀ c, Wv b = some c → Yd c.kind = true → ∀ H n, GOK 0 2 H n → Ret prog 53 [Zt s, Zq c.q] H n (.int .i64 (qc c.q)) H n) :
   Ret prog 26 [Zt s, bys b] H n (.tup [Zh (decC qc s b).1, .int .i64 (decC qc s b).2]) H n := by
 have hszs : (Zt s).sz = 1 := rfl
 have hags : (Zt s).isAgg = true := rfl
 have hmos : (Zt s).memOK = true := rfl
 have hcag : ∀ c, (Zh c).isAgg = true := fun _ => rfl
 have hcmo : ∀ c, (Zh c).memOK = true := fun _ => rfl
 have hb3 : (false == false) = true := rfl
 have hb4 : (true == false) = false := rfl
 have hzsz : cmdZ.sz = 17 := rfl
 have k0 := hs
 have k1 := hs
 have k2 := hs
 refine Ret.fin ?_
 refine Zc func26 rfl ntmps26 (congrArg Array.toList results26) (by simp) ?_
 simp only [go_sem]
 refine Za zs [1, 2, 4] fun K Y => ?_
 simp only [go_sem, seval, Nat.add_assoc]
 apply Y; clear Y K
 refine Zb fun K1 hK1 => ?_
 refine Za zs [1, 2, 4, 11] fun K Y => ?_
 simp only [go_sem, seval]
 refine Zg func47 rfl rfl rfl ((by apply Xt <;> first | assumption | omega)) ?_
 simp only [go_sem, seval]
 apply Y; clear Y K
 refine Ze ?_ ?_ <;> intro hb
 ·have hd : decC qc s b = (zc, 28) := by unfold decC; simp_all
  refine Za zs [4, 5] fun K Y => ?_
  simp only [go_sem, seval]
  apply Y; clear Y K
  refine Zf ?_
  simp only [go_sem, seval]
  refine ⟨_, rfl, fun k hk => ?_, ?_⟩
  ·(repeat rw [if_neg (by omega)])
   try exact hl1 k hk
  ·rw [hd]; first | exact .tup (.cons (U6 _ _) (.cons (.kl trivial) .nil)) | exact .tup (.cons (.kl (UY _ _)) (.cons (.kl trivial) .nil))
 have hs0 : Z8 s = 0 := by simp_all
 refine Zd ?_
 simp only [go_sem, seval]
 apply hK1
 clear hK1 K1
 refine Zb fun K2 hK2 => ?_
 refine Za zs [1, 2, 4, 15] fun K Y => ?_
 simp only [go_sem, seval, List.length_map]
 apply Y; clear Y K
 refine Ze ?_ ?_ <;> intro hb
 ·have hd : decC qc s b = (zc, 2) := by have hb8 : 98304 < b.length := by { simp at hb; omega }; unfold decC; simp [hs0, hb8]
  refine Za zs [4, 5] fun K Y => ?_
  simp only [go_sem, seval]
  apply Y; clear Y K
  refine Zf ?_
  simp only [go_sem, seval]
  refine ⟨_, rfl, fun k hk => ?_, ?_⟩
  ·(repeat rw [if_neg (by omega)])
   try exact hl1 k hk
  ·rw [hd]; first | exact .tup (.cons (U6 _ _) (.cons (.kl trivial) .nil)) | exact .tup (.cons (.kl (UY _ _)) (.cons (.kl trivial) .nil))
 have hb8 : b.length ≤ 98304 := by simp at hb; omega
 refine Zd ?_
 simp only [go_sem, seval]
 apply hK2
 clear hK2 K2
 refine Za zs [1, 2, 4, 6] fun K Y => ?_
 simp only [go_sem, seval, Nat.add_assoc]
 apply Y; clear Y K
 refine Za zs [1, 2, 4, 6, 7] fun K Y => ?_
 simp only [go_sem, seval, Nat.add_assoc]
 apply Y; clear Y K
 refine WN (n + 2) (ver := 0) (e := 17) (els := [cmdZ]) (els' := [Zh zc]) (by simp [Heap.put, cmdZ]) ⟨cmdZ_wk, trivial⟩ ?_
 refine Za zs [1, 2, 4, 6, 8] fun K Y => ?_
 simp only [go_sem, seval]
 repeat (first | refine peel ?_ | refine ⟨by exact ⟨rfl, fun x hx => by simp only [List.mem_cons, List.not_mem_nil, or_false] at hx; rcases hx with rfl | rfl | rfl | rfl | rfl <;> exact ⟨rfl, rfl⟩⟩, ?_⟩)
 have hcall := fun Hc (hgc : GOK 0 2 Hc (n + 4)) h1 h2 => KM (b := b) (H := Hc) (n := n + 4) (kc := n + 2) (kk := n + 3) (by omega) hgc (by omega) (by omega) (by omega) (by have := hG.gek; omega) (by have := hG.gek; omega) (by have := hG.get; omega) (by have := hG.get; omega) h1 h2
 refine Zi (args' := [bys b, .sl 1 ((QR (n + 2) (n + 3)).map fun x => .fn (.func x.1) [] x.2)]) func65 rfl rfl rfl (hcall _ ?_ ?_ ?_) ?_ ?_
 ·exact hG.on (fun k hk => by simp only [MF]; (repeat rw [if_neg (by omega)])) (by omega)
 ·simp [Heap.put]
 ·simp [Heap.put, Zo, ZQ, YQ, kOps, Yn, Yd]
 rotate_left
 ·rintro e9 H9 n9 ⟨_, _, v, h, _⟩; cases h
 rintro rr H1 n1 ⟨hn1, hlow, v, h, hcase⟩
 cases h
 have k0 : H1 n = some (.arr 0 1 [Zt s]) := (hlow n (by omega) (by omega) (by omega)).trans (by simp [Heap.put, Zt])
 have k1 : H1 (n + 1) = some (.arr 0 17 [cmdZ]) := (hlow (n + 1) (by omega) (by omega) (by omega)).trans (by simp [Heap.put, cmdZ])
 have hl1 : ∀ k, k < n → H1 k = H k := fun k hk => (hlow k (by omega) (by omega) (by omega)).trans (by simp only [MF]; (repeat rw [if_neg (by omega)]))
 have hG1 : GOK 0 2 H1 n1 := hG.on hl1 (by omega)
 clear hlow
 simp only [go_sem, seval]
 apply Y; clear Y K
 refine Zb fun K3 hK3 => ?_
 rcases hcase with ⟨rfl, c, hcm, k2⟩ | ⟨rfl, hcm⟩
 ·skip
  refine Za zs [4, 6, 39] fun K Y => ?_
  simp only [go_sem, seval, k0, k2, Yy, hcag, Bool.not_true, hb3, true_implies]
  first | refine Zv func15 rfl rfl rfl (fun hg => (Xx s hs c (Xi (by omega) hcm).1 (qc c.q) (hq c hcm) _ _ hG1)) ?_ | ((refine W9 fun r9 => ?_; try simp only [go_sem, seval, hszs, hags, hmos, k0, k1, k2, bys]); refine Zv (r := .int .i64 0) func15 rfl rfl rfl (fun h => by first | (nomatch h) | (simp at h)) ?_)
  simp only [go_sem, seval, k2, Yy, hcag, Bool.not_true]
  repeat refine peel ?_
  simp only [go_sem, seval]
  first | refine Zv func55 rfl rfl rfl (fun hg => (Wj c (Xi (by omega) hcm).1 (Xi (by omega) hcm).2.1 (Xi (by omega) hcm).2.2 _ _ hG1)) ?_ | ((refine W9 fun r9 => ?_; try simp only [go_sem, seval, hszs, hags, hmos, k0, k1, k2, bys]); refine Zv (r := .sl 1 []) func55 rfl rfl rfl (fun h => by first | (nomatch h) | (simp at h)) ?_)
  simp only [go_sem, seval, bys]
  refine Zv func77 rfl rfl rfl (fun hg => (Yk (cmdB c) b _ _)) ?_
  simp only [go_sem, seval, true_implies]
  repeat refine peel ?_
  apply Y; clear Y K
  refine Ze ?_ ?_ <;> intro hb
  ·have hd : decC qc s b = (zc, 140) := by have hn : ¬(ZB (qc c.q) s c = 0 ∧ cmdB c = b) := (by rintro ⟨e1, e2⟩; simp [e1, e2] at hb); unfold decC; rw [if_neg (by simp [hs0]), if_neg (by omega), hcm]; simp only []; rw [if_neg hn]
   refine Za zs [4, 5] fun K Y => ?_
   simp only [go_sem, seval, k1]
   repeat refine peel ?_
   apply Y; clear Y K
   refine Zf ?_
   simp only [go_sem, seval]
   refine ⟨_, rfl, fun k hk => ?_, ?_⟩
   ·(repeat rw [if_neg (by omega)])
    try exact hl1 k hk
   ·rw [hd]; first | exact .tup (.cons (U6 _ _) (.cons (.kl trivial) .nil)) | exact .tup (.cons (.kl (UY _ _)) (.cons (.kl trivial) .nil))
  have hd : decC qc s b = (c, 0) := by have hn : ZB (qc c.q) s c = 0 ∧ cmdB c = b := (by by_cases e1 : ZB (qc c.q) s c = 0 <;> simp_all); unfold decC; rw [if_neg (by simp [hs0]), if_neg (by omega), hcm]; simp only []; rw [if_pos hn]
  refine Zd ?_
  simp only [go_sem, seval]
  apply hK3
  clear hK3 K3
  refine Za zs [4, 5] fun K Y => ?_
  simp only [go_sem, seval, k1, k2, Yy, hcag, hcmo, hzsz]
  apply Y; clear Y K
  refine Zf ?_
  simp only [go_sem, seval]
  refine ⟨⟨rfl, by rw [Yy]⟩, _, rfl, fun k hk => ?_, ?_⟩
  ·(repeat rw [if_neg (by omega)])
   try exact hl1 k hk
  ·rw [hd]; first | exact .tup (.cons (U6 _ _) (.cons (.kl trivial) .nil)) | exact .tup (.cons (.kl (UY _ _)) (.cons (.kl trivial) .nil))
 ·skip
  refine Za zs [4, 6, 39] fun K Y => ?_
  simp only [go_sem, seval, k0, Bool.not_false, hb4]
  first | refine Zv func15 rfl rfl rfl (fun hg => (Xx s hs c (Xi (by omega) hcm).1 (qc c.q) (hq c hcm) _ _ hG1)) ?_ | ((refine W9 fun r9 => ?_; try simp only [go_sem, seval, hszs, hags, hmos, k0, k1, k2, bys]); refine Zv (r := .int .i64 0) func15 rfl rfl rfl (fun h => by first | (nomatch h) | (simp at h)) ?_)
  simp only [go_sem, seval, Bool.not_false]
  repeat refine peel ?_
  simp only [go_sem, seval, hb4]
  first | refine Zv func55 rfl rfl rfl (fun hg => (Wj c (Xi (by omega) hcm).1 (Xi (by omega) hcm).2.1 (Xi (by omega) hcm).2.2 _ _ hG1)) ?_ | ((refine W9 fun r9 => ?_; try simp only [go_sem, seval, hszs, hags, hmos, k0, k1, k2, bys]); refine Zv (r := .sl 1 []) func55 rfl rfl rfl (fun h => by first | (nomatch h) | (simp at h)) ?_)
  simp only [go_sem, seval, Bool.not_false]
  (refine Zv (r := .bool false) func77 rfl rfl rfl (fun h => by first | (nomatch h) | (simp at h)) ?_)
  simp only [go_sem, seval, Bool.not_false]
  repeat refine peel ?_
  apply Y; clear Y K
  refine Ze ?_ ?_ <;> intro hb
  ·have hd : decC qc s b = (zc, 140) := by unfold decC; rw [if_neg (by simp [hs0]), if_neg (by omega), hcm]
   refine Za zs [4, 5] fun K Y => ?_
   simp only [go_sem, seval, k1]
   repeat refine peel ?_
   apply Y; clear Y K
   refine Zf ?_
   simp only [go_sem, seval]
   refine ⟨_, rfl, fun k hk => ?_, ?_⟩
   ·(repeat rw [if_neg (by omega)])
    try exact hl1 k hk
   ·rw [hd]; first | exact .tup (.cons (U6 _ _) (.cons (.kl trivial) .nil)) | exact .tup (.cons (.kl (UY _ _)) (.cons (.kl trivial) .nil))
  exact absurd hb (by simp) --dead
theorem KQ (a b : YF) (H : Heap) (n : Nat) : Ret prog 82 [Zu a, Zu b] H n (.bool (decide (a = b))) H n := by
 refine Ret.fin ?_
 refine Zc func82 rfl ntmps82 (congrArg Array.toList results82) (by simp) ?_
 simp only [go_sem]
 refine Za zs [2, 3] fun K Y => ?_
 simp only [go_sem, seval, Zu]
 apply Y; clear Y K
 refine Za zs [4] fun K Y => ?_
 simp only [go_sem, seval]
 repeat refine peel ?_
 refine Zv func77 rfl rfl rfl (fun _ => (Yk a.qual b.qual _ _)) ?_
 simp only [go_sem, seval]
 repeat refine peel ?_
 refine Zv func77 rfl rfl rfl (fun _ => (Yk a.value b.value _ _)) ?_
 simp only [go_sem, seval]
 repeat refine peel ?_
 apply Y; clear Y K
 refine Zf ?_
 simp only [go_sem, seval]
 refine ⟨_, rfl, ?_, Frz.eq ?_ trivial⟩
 ·intro k hk; have h0 : k ≠ n := by omega
  have h1 : ∀ j, k ≠ n + j := fun j => by omega
  simp [Heap.put, h0, h1]
 ·congr 1
  cases a; cases b
  rw [Bool.eq_iff_iff]
  simp only [YF.mk.injEq, decide_eq_true_eq, Bool.cond_false_right, Bool.and_eq_true, beq_iff_eq, and_assoc]
theorem KP (a b : OpE) (H : Heap) (n : Nat) : Ret prog 84 [opAV a, opAV b] H n (.bool (decide (a = b))) H n := by
 refine Ret.fin ?_
 refine Zc func84 rfl ntmps84 (congrArg Array.toList results84) (by simp) ?_
 simp only [go_sem]
 refine Za zs [2, 3] fun K Y => ?_
 simp only [go_sem, seval, opAV]
 apply Y; clear Y K
 refine Za zs [4] fun K Y => ?_
 simp only [go_sem, seval]
 repeat refine peel ?_
 refine Zv func77 rfl rfl rfl (fun _ => (Yk a.qual b.qual _ _)) ?_
 simp only [go_sem, seval]
 repeat refine peel ?_
 refine Zv func77 rfl rfl rfl (fun _ => (Yk a.value b.value _ _)) ?_
 simp only [go_sem, seval]
 repeat refine peel ?_
 apply Y; clear Y K
 refine Zf ?_
 simp only [go_sem, seval]
 refine ⟨_, rfl, ?_, Frz.eq ?_ trivial⟩
 ·intro k hk; have h0 : k ≠ n := by omega
  have h1 : ∀ j, k ≠ n + j := fun j => by omega
  simp [Heap.put, h0, h1]
 ·congr 1
  cases a; cases b
  rw [Bool.eq_iff_iff]
  simp only [OpE.mk.injEq, decide_eq_true_eq, Bool.cond_false_right, Bool.and_eq_true, beq_iff_eq, and_assoc]
theorem Uj (a b : List YF) (ha : a.length ≤ 1048576) (H : Heap) (n : Nat) : Ret prog 81 [.sl 4 (a.map Zu), .sl 4 (b.map Zu), .fn (.func 82) [] []] H n (.bool (decide (a = b))) H n := by
 have hsz : ∀ x, (Zu x).sz = 4 := fun x => rfl
 have hag : ∀ x, (Zu x).isAgg = true := fun x => rfl
 have hmo : ∀ x, (Zu x).memOK = true := fun x => rfl
 refine Ret.fin ?_
 refine Zc func81 rfl ntmps81 (congrArg Array.toList results81) (by simp) ?_
 simp only [go_sem]
 refine Za zs [0, 1, 2] fun K Y => ?_
 simp only [go_sem, seval]
 apply Y; clear Y K
 refine Zb fun K1 hK1 => ?_
 refine Za zs [0, 1, 2, 14] fun K Y => ?_
 simp only [go_sem, seval, List.length_map]
 apply Y; clear Y K
 refine Ze ?_ ?_ <;> intro hb
 ·have hne : ¬ a = b := fun e => by rw [e] at hb; simp at hb
  refine Za zs [6] fun K Y => ?_
  simp only [go_sem, seval]
  apply Y; clear Y K
  refine Zf ?_
  simp only [go_sem, seval]
  (refine ⟨_, rfl, Frz.eq ?_ trivial⟩; first | (simp [heq]; done) | (simp [hne]; done))
 have hl : a.length = b.length := by simp at hb; omega
 refine Zd ?_
 simp only [go_sem, seval]
 apply hK1
 clear hK1 K1
 refine Zb fun K2 hK2 => ?_
 refine Za zs [1, 2, 15, 16, 17] fun K Y => ?_
 simp only [go_sem, seval, List.length_map]
 apply Y; clear Y K
 refine Zj ?_
 refine Zz (fun T' H' n' => ∃ i : Nat, i ≤ a.length ∧ T' = tl [(1, .sl 4 (b.map Zu)), (2, .fn (.func 82) [] []), (15, .sl 4 (a.map Zu)), (16, .int .i64 a.length), (17, .int .i64 i)] ∧ (∀ k, k < n → H' k = H k) ∧ n ≤ n' ∧ (a.drop i = b.drop i ↔ a = b)) (fun T' _ _ => a.length - iv (T' 17)) ?_ ?_
 ·exact ⟨0, Nat.zero_le _, rfl, fun _ _ => rfl, Nat.le_refl _, by simp⟩
 intro T1 H1 n1
 rintro ⟨i, hi, rfl, hlow, hnn, hix⟩
 refine Za zs [1, 2, 15, 16, 17, 18] fun K Y => ?_
 simp only [go_sem, seval]
 apply Y; clear Y K
 refine Zb fun K3 hK3 => ?_
 refine Ze ?_ ?_ <;> intro hb
 ·have hlt : i < a.length := by simpa using hb
  have hlt2 : i < b.length := by omega
  rw [ZZ a i hlt, ZZ b i hlt2, List.cons.injEq] at hix
  have hn1 : nth (a.map Zu) i = Zu (a.getD i default) := ZF Zu a i hlt
  have hn2 : nth (b.map Zu) i = Zu (b.getD i default) := ZF Zu b i hlt2
  refine Zd ?_
  simp only [go_sem, seval]
  apply hK3
  clear hK3 K3
  refine Zb fun K4 hK4 => ?_
  refine Zj ?_
  refine Za zs [1, 2, 7, 8, 15, 16, 17] fun K Y => ?_
  simp only [go_sem, seval, List.length_map, Int.toNat_natCast, hn1, hsz, hag, hmo]
  repeat refine peel ?_
  apply Y; clear Y K
  refine Za zs [1, 2, 8, 9, 15, 16, 17] fun K Y => ?_
  simp only [go_sem, seval, List.length_map, Int.toNat_natCast, hn2, hsz, hag, hmo]
  repeat refine peel ?_
  apply Y; clear Y K
  refine Za zs [1, 2, 15, 16, 17, 30] fun K Y => ?_
  simp only [go_sem, seval, hsz, hag]
  refine Zg func82 rfl rfl rfl (KQ _ _ _ _) ?_
  simp only [go_sem, seval]
  apply Y; clear Y K
  refine Ze ?_ ?_ <;> intro hb
  ·have hne : ¬ a = b := fun e => by rw [← hix] at e; have := e.1; simp_all
   refine Za zs [6] fun K Y => ?_
   simp only [go_sem, seval]
   apply Y; clear Y K
   refine Zf ?_
   simp only [go_sem, seval]
   exact ⟨_, rfl, fun k hk => by (repeat rw [if_neg (by omega)]); first | rfl | exact hlow k hk, Frz.eq (by first | simp [heq] | simp [hne]) trivial⟩
  have hx : a.getD i default = b.getD i default := by simp at hb; simpa using hb
  have hnext : (a.drop (i + 1) = b.drop (i + 1)) ↔ a = b := by rw [← hix]; simp only [hx, true_and]
  refine Zd ?_
  simp only [go_sem, seval]
  apply hK4
  clear hK4 K4
  refine Zl zs [1, 2, 15, 16, 17] fun K Y => ?_
  simp only [go_sem, seval]
  apply Y; clear Y K
  simp only [go_sem, seval]
  refine ⟨⟨i + 1, by omega, by rw [w1 (by omega)], fun k hk => ?_, by omega, hnext⟩, by rw [w1 (by omega)]; simp; omega⟩
  (repeat rw [if_neg (by omega)])
  exact hlow k hk
 have hge : i = a.length := by simp at hb; omega
 have heq : a = b := by rw [← hix, hge, List.drop_length, hl, List.drop_length]
 refine ZA ?_
 simp only [go_sem, seval]
 apply hK2
 refine Za zs [6] fun K Y => ?_
 simp only [go_sem, seval]
 apply Y; clear Y K
 refine Zf ?_
 simp only [go_sem, seval]
 exact ⟨_, rfl, fun k hk => by (repeat rw [if_neg (by omega)]); first | rfl | exact hlow k hk, Frz.eq (by first | simp [heq] | simp [hne]) trivial⟩
theorem UK (a b : List OpE) (ha : a.length ≤ 1048576) (H : Heap) (n : Nat) : Ret prog 83 [.sl 6 (a.map opAV), .sl 6 (b.map opAV), .fn (.func 84) [] []] H n (.bool (decide (a = b))) H n := by
 have hsz : ∀ x, (opAV x).sz = 6 := fun x => rfl
 have hag : ∀ x, (opAV x).isAgg = true := fun x => rfl
 have hmo : ∀ x, (opAV x).memOK = true := fun x => rfl
 refine Ret.fin ?_
 refine Zc func83 rfl ntmps83 (congrArg Array.toList results83) (by simp) ?_
 simp only [go_sem]
 refine Za zs [0, 1, 2] fun K Y => ?_
 simp only [go_sem, seval]
 apply Y; clear Y K
 refine Zb fun K1 hK1 => ?_
 refine Za zs [0, 1, 2, 14] fun K Y => ?_
 simp only [go_sem, seval, List.length_map]
 apply Y; clear Y K
 refine Ze ?_ ?_ <;> intro hb
 ·have hne : ¬ a = b := fun e => by rw [e] at hb; simp at hb
  refine Za zs [6] fun K Y => ?_
  simp only [go_sem, seval]
  apply Y; clear Y K
  refine Zf ?_
  simp only [go_sem, seval]
  (refine ⟨_, rfl, Frz.eq ?_ trivial⟩; first | (simp [heq]; done) | (simp [hne]; done))
 have hl : a.length = b.length := by simp at hb; omega
 refine Zd ?_
 simp only [go_sem, seval]
 apply hK1
 clear hK1 K1
 refine Zb fun K2 hK2 => ?_
 refine Za zs [1, 2, 15, 16, 17] fun K Y => ?_
 simp only [go_sem, seval, List.length_map]
 apply Y; clear Y K
 refine Zj ?_
 refine Zz (fun T' H' n' => ∃ i : Nat, i ≤ a.length ∧ T' = tl [(1, .sl 6 (b.map opAV)), (2, .fn (.func 84) [] []), (15, .sl 6 (a.map opAV)), (16, .int .i64 a.length), (17, .int .i64 i)] ∧ (∀ k, k < n → H' k = H k) ∧ n ≤ n' ∧ (a.drop i = b.drop i ↔ a = b)) (fun T' _ _ => a.length - iv (T' 17)) ?_ ?_
 ·exact ⟨0, Nat.zero_le _, rfl, fun _ _ => rfl, Nat.le_refl _, by simp⟩
 intro T1 H1 n1
 rintro ⟨i, hi, rfl, hlow, hnn, hix⟩
 refine Za zs [1, 2, 15, 16, 17, 18] fun K Y => ?_
 simp only [go_sem, seval]
 apply Y; clear Y K
 refine Zb fun K3 hK3 => ?_
 refine Ze ?_ ?_ <;> intro hb
 ·have hlt : i < a.length := by simpa using hb
  have hlt2 : i < b.length := by omega
  rw [ZZ a i hlt, ZZ b i hlt2, List.cons.injEq] at hix
  have hn1 : nth (a.map opAV) i = opAV (a.getD i default) := ZF opAV a i hlt
  have hn2 : nth (b.map opAV) i = opAV (b.getD i default) := ZF opAV b i hlt2
  refine Zd ?_
  simp only [go_sem, seval]
  apply hK3
  clear hK3 K3
  refine Zb fun K4 hK4 => ?_
  refine Zj ?_
  refine Za zs [1, 2, 7, 8, 15, 16, 17] fun K Y => ?_
  simp only [go_sem, seval, List.length_map, Int.toNat_natCast, hn1, hsz, hag, hmo]
  repeat refine peel ?_
  apply Y; clear Y K
  refine Za zs [1, 2, 8, 9, 15, 16, 17] fun K Y => ?_
  simp only [go_sem, seval, List.length_map, Int.toNat_natCast, hn2, hsz, hag, hmo]
  repeat refine peel ?_
  apply Y; clear Y K
  refine Za zs [1, 2, 15, 16, 17, 30] fun K Y => ?_
  simp only [go_sem, seval, hsz, hag]
  refine Zg func84 rfl rfl rfl (KP _ _ _ _) ?_
  simp only [go_sem, seval]
  apply Y; clear Y K
  refine Ze ?_ ?_ <;> intro hb
  ·have hne : ¬ a = b := fun e => by rw [← hix] at e; have := e.1; simp_all
   refine Za zs [6] fun K Y => ?_
   simp only [go_sem, seval]
   apply Y; clear Y K
   refine Zf ?_
   simp only [go_sem, seval]
   exact ⟨_, rfl, fun k hk => by (repeat rw [if_neg (by omega)]); first | rfl | exact hlow k hk, Frz.eq (by first | simp [heq] | simp [hne]) trivial⟩
  have hx : a.getD i default = b.getD i default := by simp at hb; simpa using hb
  have hnext : (a.drop (i + 1) = b.drop (i + 1)) ↔ a = b := by rw [← hix]; simp only [hx, true_and]
  refine Zd ?_
  simp only [go_sem, seval]
  apply hK4
  clear hK4 K4
  refine Zl zs [1, 2, 15, 16, 17] fun K Y => ?_
  simp only [go_sem, seval]
  apply Y; clear Y K
  simp only [go_sem, seval]
  refine ⟨⟨i + 1, by omega, by rw [w1 (by omega)], fun k hk => ?_, by omega, hnext⟩, by rw [w1 (by omega)]; simp; omega⟩
  (repeat rw [if_neg (by omega)])
  exact hlow k hk
 have hge : i = a.length := by simp at hb; omega
 have heq : a = b := by rw [← hix, hge, List.drop_length, hl, List.drop_length]
 refine ZA ?_
 simp only [go_sem, seval]
 apply hK2
 refine Za zs [6] fun K Y => ?_
 simp only [go_sem, seval]
 apply Y; clear Y K
 refine Zf ?_
 simp only [go_sem, seval]
 exact ⟨_, rfl, fun k hk => by (repeat rw [if_neg (by omega)]); first | rfl | exact hlow k hk, Frz.eq (by first | simp [heq] | simp [hne]) trivial⟩
set_option maxRecDepth 100000 in
set_option maxHeartbeats 3200000 in
theorem JD (a b : CmdE) (ha : a.fits) (H : Heap) (n : Nat) : Ret prog 31 [Zh a, Zh b] H n (.bool (decide (a = b))) H n := by
 have hszqa : (Zq a.q).sz = 10 := Yj a.q
 have hagqa : (Zq a.q).isAgg = true := rfl
 have hmoqa : (Zq a.q).memOK = true := rfl
 have hszqb : (Zq b.q).sz = 10 := Yj b.q
 have hagqb : (Zq b.q).isAgg = true := rfl
 have hmoqb : (Zq b.q).memOK = true := rfl
 refine Ret.fin ?_
 refine Zc func31 rfl ntmps31 (congrArg Array.toList results31) (by simp) ?_
 simp only [go_sem]
 refine Za zs [2, 3] fun K Y => ?_
 simp only [go_sem, seval, Zh, hszqa, hszqb]
 apply Y; clear Y K
 refine Za zs [4] fun K Y => ?_
 simp only [go_sem, seval]
 repeat refine peel ?_
 refine Zv func77 rfl rfl rfl (fun _ => (Yk a.row b.row _ _)) ?_
 simp only [go_sem, seval, hszqa, hagqa, hszqb, hagqb]
 repeat refine peel ?_
 refine Zv func54 rfl rfl rfl (fun _ => (VX a.q b.q ha.fams _ _)) ?_
 simp only [go_sem, seval]
 repeat refine peel ?_
 refine Zv func81 rfl rfl rfl (fun _ => (Uj a.conds b.conds ha.conds _ _)) ?_
 simp only [go_sem, seval]
 repeat refine peel ?_
 refine Zv func83 rfl rfl rfl (fun _ => (UK a.ops b.ops ha.ops _ _)) ?_
 simp only [go_sem, seval]
 repeat refine peel ?_
 apply Y; clear Y K
 refine Zf ?_
 simp only [go_sem, seval]
 refine ⟨_, rfl, ?_, Frz.eq ?_ trivial⟩
 ·intro k hk; have h0 : k ≠ n := by omega
  have h1 : ∀ j, k ≠ n + j := fun j => by omega
  simp [Heap.put, h0, h1]
 ·congr 1
  cases a; cases b
  rw [Bool.eq_iff_iff]
  simp only [CmdE.mk.injEq, decide_eq_true_eq, Bool.cond_false_right, Bool.and_eq_true, beq_iff_eq, and_assoc]
  constructor
  ·rintro ⟨e1, e2, e3, e4, e5, e6, e7, e8⟩; exact ⟨e1, e2, e3, e4, e7, e8, e5, e6⟩
  ·rintro ⟨e1, e2, e3, e4, e5, e6, e7, e8⟩; exact ⟨e1, e2, e3, e4, e7, e8, e5, e6⟩
theorem VU {qc : Int} {s : List Fml} {c : CmdE} (h : ZB qc s c = 0) : 1 ≤ c.kind ∧ c.kind ≤ 7 := by
 unfold ZB at h
 split at h
 ·cases h
 ·split at h
  ·cases h
  ·rename_i hb
   simp [bout] at hb
   omega
set_option maxRecDepth 100000 in
set_option maxHeartbeats 3200000 in
theorem Qf (s : List Fml) (hs : s.length ≤ 2000000) (c : CmdE) (hc : c.fits) (qc : Int) {H : Heap} {n : Nat} (hG : GOK 0 2 H n)
   (hq : Yd c.kind = true → ∀ H n, GOK 0 2 H n → Ret prog 53 [Zt s, Zq c.q] H n (.int .i64 qc) H n) :
   Ret prog 17 [Zt s, Zh c] H n (.tup [bys (if ZB qc s c = 0 then cmdB c else []), .int .i64 (ZB qc s c)]) H n := by
 have hszs : (Zt s).sz = 1 := rfl
 have hags : (Zt s).isAgg = true := rfl
 have hmos : (Zt s).memOK = true := rfl
 have hcag : (Zh c).isAgg = true := rfl
 have hcmo : (Zh c).memOK = true := rfl
 have hsz : (Zh c).sz = 17 := Yy c
 refine Ret.fin ?_
 refine Zc func17 rfl ntmps17 (congrArg Array.toList results17) (by simp) ?_
 simp only [go_sem]
 refine Za zs [2, 3] fun K Y => ?_
 simp only [go_sem, seval, hcmo, hsz]
 apply Y; clear Y K
 refine Zb fun K1 hK1 => ?_
 have hG1 := hG.on (H' := (H.put n (some (.arr 0 1 [Zt s]))).put (n + 1) (some (.arr 0 17 [Zh c]))) (n' := n + 2) (fun k hk => by simp only [MF]; (repeat rw [if_neg (by omega)])) (by omega)
 refine Za zs [3, 6] fun K Y => ?_
 simp only [go_sem, seval, hcag, hsz]
 refine Zg func15 rfl rfl rfl ((Xx s hs c hc qc hq _ _ hG1)) ?_
 simp only [go_sem, seval]
 apply Y; clear Y K
 refine Za zs [3, 6, 11] fun K Y => ?_
 simp only [go_sem, seval]
 apply Y; clear Y K
 refine Ze ?_ ?_ <;> intro hb
 ·have hn : ¬ ZB qc s c = 0 := by simpa using hb
  refine Za zs [4, 5] fun K Y => ?_
  simp only [go_sem, seval]
  apply Y; clear Y K
  refine Zf ?_
  simp only [go_sem, seval]
  refine ⟨_, rfl, fun k hk => by (repeat rw [if_neg (by omega)]), ?_⟩
  (rw [if_neg hn]; exact .tup (.cons .nilsl (.cons (.kl trivial) .nil)))
 have hy : ZB qc s c = 0 := by simpa using hb
 refine Zd ?_
 simp only [go_sem, seval]
 apply hK1
 clear hK1 K1
 refine Za zs [4, 5] fun K Y => ?_
 simp only [go_sem, seval, hcag, hsz]
 refine Zg func55 rfl rfl rfl ((Wj c hc (VU hy).1 (VU hy).2 _ _ hG1)) ?_
 simp only [go_sem, seval]
 refine Zg func64 rfl rfl rfl ((V7 (cmdB c) _ _)) ?_
 simp only [go_sem, seval]
 apply Y; clear Y K
 refine Zf ?_
 simp only [go_sem, seval]
 refine ⟨_, rfl, fun k hk => by (repeat rw [if_neg (by omega)]), ?_⟩
 (rw [hy, if_pos rfl]; exact .tup (.cons (.kl (ZJ _ _)) (.cons (.kl trivial) .nil)))
end Go.Proofs.YtifnhpmeoogedaaGreatDoor
namespace Go.Sx
open Go
def LowO (H0 H H' : Heap) (n k : Nat) : Prop :=
 (H' k = H k ∧ (H k = H0 k ∨ ∀ o, H k = some o → o.kl n)) ∨ ∃ ver e els els', H k = some (.arr ver e els) ∧ H' k = some (.arr ver e els') ∧ FrzL H n els els'
theorem Step.fin2 {c0 c : Ctx} {H0 H H' : Heap} {n n' : Nat} {w0 w : World} (hs0 : Sim c0 H0 n w0) (h : Step c0 H0 w0 c H n' w)
   (hlow : ∀ k, k < n → LowO H0 H H' n k) (hhigh : ∀ k, n ≤ k → H' k = H0 k) : Step c0 H0 w0 (c.frz H n w) H' n w := by
 have hu : c0.under n := fun k v hk => (hs0.fresh k hk).2 v
 have hnone : ∀ k, n ≤ k → H' k = none := fun k hk => by rw [hhigh k hk]; exact (hs0.fresh k hk).1
 have hkl : ∀ k o, H' k = some o → k < n ∧ ∃ o1, H k = some o1 ∧ o1.ver = o.ver ∧ Ya (c.frz H n w) k w o := fun k o hk => by
   have hkn : k < n := by
     rcases Nat.lt_or_ge k n with h | h
     ·exact h
     ·rw [hnone k h] at hk; simp at hk
   refine ⟨hkn, ?_⟩
   rcases hlow k hkn with ⟨h1, h2⟩ | ⟨ver, e, els, els', h1, h2, h3⟩
   ·rw [h1] at hk
    refine ⟨o, hk, rfl, (h.sim.own k o hk).low (c.frz_low H n w) hkn ?_⟩
    rcases h2 with h2 | h2
    ·exact (hs0.own k o (by rw [← h2]; exact hk)).kl hu
    ·exact h2 o hk
   ·rw [h2] at hk
    cases hk
    refine ⟨_, h1, rfl, ?_⟩
    have ho := h.sim.own k _ h1
    simp only [Ya] at ho ⊢
    obtain ⟨l, g1, hm⟩ := ho
    refine ⟨l, (c.frz_low H n w).ρ hkn g1, ?_⟩
    cases l with
    | nil =>
      simp only at hm ⊢
      subst hm
      cases h3
      rfl
    | blk b cap e' =>
      obtain ⟨e1, e2, e3, arr, ty, ds, e4, e5, hr, e6⟩ := hm
      exact ⟨e1, h3.szAll e2, by rw [← h3.len]; exact e3, arr, ty, ds, e4, e5, FrzL.relF h.sim h3 hr, e6⟩
 have hbo : ∀ k (o o1 : AObj), k < n → o1.ver = o.ver → Zw (c.frz H n w) k o = Zw c k o1 := fun k o o1 hk hv => by
   unfold Zw
   have : (c.frz H n w).ρ k o.ver = c.ρ k o1.ver := by show (if k < n then _ else none) = _; rw [if_pos hk, hv]
   rw [this]
 exact {
   le := {
     ρ := fun {k v l} hk => by
       have hkn : k < n := by
         rcases Nat.lt_or_ge k n with h | h
         ·exact h
         ·rw [hu k v h] at hk; simp at hk
       exact (c.frz_low H n w).ρ hkn (h.le.ρ hk)
     ro := fun hb => (c.frz_low H n w).ro (h.le.ro hb) }
   sim := {
     ro := fun b a hb => by
       simp only [Ctx.frz] at hb
       split at hb
       ·rename_i a' hr; cases hb; exact h.sim.ro b _ hr
       ·split at hb
        ·split at hb
         ·rename_i _ _ hw; cases hb; exact ⟨_, _, hw⟩
         ·simp at hb
        ·simp at hb
     own := fun k o hk => by
       obtain ⟨_, _, _, _, h3⟩ := hkl k o hk
       exact h3
     sep := fun k o b hk hb => by
       obtain ⟨h1, o1, h2, h3, _⟩ := hkl k o hk
       rw [hbo k o o1 h1 h3] at hb
       have h4 := h.sim.sep k o1 b h2 hb
       simp only [Ctx.frz, h4]
       rw [if_neg]
       rintro ⟨k', ver, e, els, hn', hk', hb'⟩
       have := h.sim.inj k k' o1 _ b h2 hk' hb hb'
       omega
     inj := fun k k' o o' b h1 h2 b1 b2 => by
       obtain ⟨h3, o1, h4, h5, _⟩ := hkl k o h1
       obtain ⟨h6, o2, h7, h8, _⟩ := hkl k' o' h2
       rw [hbo k o o1 h3 h5] at b1
       rw [hbo k' o' o2 h6 h8] at b2
       exact h.sim.inj k k' o1 o2 b h4 h7 b1 b2
     fresh := fun k hk => ⟨hnone k hk, fun v => by show (if k < n then _ else none) = none; rw [if_neg (by omega)]⟩
     vers := fun k o v hk hv => by
       obtain ⟨h3, o1, h4, h5, _⟩ := hkl k o hk
       show (if k < n then c.ρ k v else none) = none
       rw [if_pos h3]
       exact h.sim.vers k o1 v h4 (by rw [h5]; exact hv) }
   fr := h.fr
   new := fun b ⟨k, o, hk, hb⟩ => by
     obtain ⟨h3, o1, h4, h5, _⟩ := hkl k o hk
     rw [hbo k o o1 h3 h5] at hb
     exact h.new b ⟨k, o1, h4, hb⟩ }
theorem M5 {P : Program} {f : FuncId} {args : List AV} {H : Heap} {n : Nat} {K : ARes → Heap → Nat → Prop}
   (h : Zx P f args H n fun res H1 n' => (∃ r r' H', res = .val r ∧ (∀ k, k < n → LowO H H1 H' n k) ∧ (∀ k, n ≤ k → H' k = H k) ∧ Frz H1 n r r' ∧ K (.val r') H' n) ∨ ∃ p, res = .pan p ∧ K (.pan p) H1 n') : Zx P f args H n K :=
 fun c w vs hs hr => (h c w vs hs hr).mono fun e w' ⟨res, c', H1, n', hd, hst, hm⟩ => by
   rcases hd with ⟨r, r', H', hres, hlow, hhigh, hfrz, Y⟩ | ⟨p, hres, Y⟩
   ·subst hres
    refine ⟨.val r', c'.frz H1 n w', H', n, Y, Step.fin2 hs hst hlow hhigh, ?_⟩
    cases e with
    | returned v => exact Frz.rel hst.sim hfrz hm
    | panicked _ => exact hm.elim
    | outgrown => exact hm.elim
   ·subst hres
    exact ⟨.pan p, c', H1, n', Y, hst, hm⟩
end Go.Sx
namespace Go.Rt
open Go Go.Sx
def VA (x : CelE) : Bool := bif (bif (bif !bout x.fam 0 7 then decide ((x.qual.length : Int) ≤ 256) else false) then !bout x.ts 1 1099511627776 else false) then decide ((x.value.length : Int) ≤ 4096) else false
def QE (r : RowE) : Bool := !bout r.row.length 1 256 && r.cells.all VA
def Jr (r : RepE) : Bool := bif (bif bout r.err 0 999 then true else decide (r.value < 0)) then true else decide ((r.rows.length : Int) > 1000)
def YU (r : RepE) : Bool := !Jr r && r.rows.all QE
theorem WV {α : Type} [Inhabited α] (p : α → Bool) (l : List α) {i : Nat} (h : i < l.length) : (l.drop i).all p = (p (l.getD i default) && (l.drop (i + 1)).all p) := by
 rw [ZZ l i h]; rfl
theorem shownB_le {x : CelE} (h : VA x = true) : x.qual.length ≤ 256 ∧ x.value.length ≤ 4096 := by
 unfold VA at h
 simp only [Bool.cond_false_right, Bool.and_eq_true, decide_eq_true_eq] at h
 omega
theorem rowOK_le {x : RowE} (h : QE x = true) : x.row.length ≤ 256 ∧ ∀ y ∈ x.cells, y.qual.length ≤ 256 ∧ y.value.length ≤ 4096 := by
 unfold QE at h
 simp only [Bool.and_eq_true, List.all_eq_true] at h
 refine ⟨?_, fun y hy => shownB_le (h.2 y hy)⟩
 have := h.1
 simp [bout] at this
 omega
theorem soundB_le {r : RepE} (h : YU r = true) : r.rows.length ≤ 1000 ∧ ∀ x ∈ r.rows, x.row.length ≤ 256 ∧ ∀ y ∈ x.cells, y.qual.length ≤ 256 ∧ y.value.length ≤ 4096 := by
 unfold YU at h
 simp only [Bool.and_eq_true, List.all_eq_true, Bool.not_eq_true'] at h
 refine ⟨?_, fun x hx => rowOK_le (h.2 x hx)⟩
 have := h.1
 unfold Jr at this
 simp at this
 omega
def encR (r : RepE) : List UInt8 × Int := if YU r = false then ([], 147) else if 1048576 < (repB r).length then ([], 2) else (repB r, 0)
def Xw (b : List UInt8) (p : Nat) : Option (CelE × Nat) :=
 (Xy b p).bind fun f => (YH b f.2).bind fun q => (YC b q.2).bind fun t => (YH b t.2).bind fun v => some (⟨f.1, q.1, t.1, v.1⟩, v.2)
def X6 (b : List UInt8) (p : Nat) : Option (RowE × Nat) := (YH b p).bind fun r => (Ym Xw b r.2).bind fun l => some (⟨r.1, l.1⟩, l.2)
def zr : RepE := ⟨0, false, 0, [], [], false⟩
def rp1 (b : List UInt8) (r : RepE) (p : Nat) : Option (RepE × Nat) := (YC b p).bind fun e => (Xy b e.2).bind fun h => (YC b h.2).bind fun v => some ({ r with err := e.1, held := h.1 == 1, value := v.1 }, v.2)
def rp2 (b : List UInt8) (r : RepE) (p : Nat) : Option (RepE × Nat) := (Ym X6 b p).bind fun l => some ({ r with rows := l.1 }, l.2)
def rp3 (b : List UInt8) (r : RepE) (p : Nat) : Option (RepE × Nat) := (YH b p).bind fun t => (Xy b t.2).bind fun d => some ({ r with token := t.1, done := d.1 == 1 }, d.2)
def UI (b : List UInt8) : Option RepE := (rp1 b zr 0).bind fun x => (rp2 b x.1 x.2).bind fun x => (rp3 b x.1 x.2).bind fun x => if x.2 = b.length then some x.1 else none
theorem rdCel_le {b : List UInt8} {p q : Nat} {x : CelE} (h : Xw b p = some (x, q)) : q ≤ b.length := by
 simp only [Xw, Option.bind_eq_some_iff] at h
 obtain ⟨⟨k, p1⟩, h1, ⟨f, p2⟩, h2, ⟨qq, p3⟩, h3, ⟨v, p4⟩, h4, h5⟩ := h
 simp only [Option.some.injEq, Prod.mk.injEq] at h5
 have e4 := ZV h4
 omega
theorem rdCels_le {b : List UInt8} {p q : Nat} {l : List CelE} (h : Ym Xw b p = some (l, q)) : q ≤ b.length ∧ l.length ≤ b.length := Uf (fun h => rdCel_le h) h
theorem Ls {b : List UInt8} {p q : Nat} {x : RowE} (h : X6 b p = some (x, q)) : q ≤ b.length ∧ x.cells.length ≤ b.length := by
 simp only [X6, Option.bind_eq_some_iff] at h
 obtain ⟨⟨k, p1⟩, h1, ⟨f, p2⟩, h2, h5⟩ := h
 simp only [Option.some.injEq, Prod.mk.injEq] at h5
 obtain ⟨rfl, rfl⟩ := h5
 exact rdCels_le h2
theorem rdRows_le {b : List UInt8} {p q : Nat} {l : List RowE} (h : Ym X6 b p = some (l, q)) : q ≤ b.length ∧ l.length ≤ b.length := Uf (fun h => (Ls h).1) h
theorem rdRows_all {b : List UInt8} {p q : Nat} {l : List RowE} (h : Ym X6 b p = some (l, q)) : ∀ x ∈ l, x.cells.length ≤ b.length := Ut (fun h => (Ls h).2) h
theorem kl_celAV (x : CelE) (n : Nat) : (Z7 x).kl n := ⟨trivial, ZJ _ _, trivial, ZJ _ _, trivial⟩
theorem LQ (x : RowE) (n : Nat) : (ZO x).kl n := ⟨ZJ _ _, Xl Z7 (fun x => kl_celAV x n) _, trivial⟩
def repN (r : RepE) : AV := .agg [.int .i64 r.err, .bool r.held, .int .i64 r.value, .agg [.nilsl, bys r.token, .bool r.done]]
def StR (torn : AV) (kr kc : Nat) (b : List UInt8) (f : RepE → AV) (H : Heap) (n : Nat) (r : Option (RepE × Nat)) (res : ARes) (H' : Heap) (n' : Nat) : Prop :=
 match r with
 | some x => res = .val (.tup []) ∧ n' = n ∧ x.2 ≤ b.length ∧ H' kr = some (rdO b x.2) ∧ H' kc = some (.arr 0 6 [f x.1]) ∧ ∀ k, k < n → k ≠ kr → k ≠ kc → H' k = H k
 | none => res = .pan torn ∧ n ≤ n' ∧ ∀ k, k < n → k ≠ kr → k ≠ kc → H' k = H k
section
variable {torn : AV} {kr kc : Nat} {b : List UInt8} {f : RepE → AV} {H : Heap} {n : Nat} {r : Option (RepE × Nat)} {H' : Heap} {n' : Nat}
theorem StR.som {c : RepE} {q : Nat} (hr : r = some (c, q)) (hn : n' = n) (hq : q ≤ b.length) (h1 : H' kr = some (rdO b q)) (h2 : H' kc = some (.arr 0 6 [f c])) (h4 : ∀ k, k < n → k ≠ kr → k ≠ kc → H' k = H k) : StR torn kr kc b f H n r (.val (.tup [])) H' n' := by
 subst hr; exact ⟨rfl, hn, hq, h1, h2, h4⟩
theorem StR.non (hr : r = none) (hn : n ≤ n') (h4 : ∀ k, k < n → k ≠ kr → k ≠ kc → H' k = H k) : StR torn kr kc b f H n r (.pan torn) H' n' := by
 subst hr; exact ⟨rfl, hn, h4⟩
theorem StR.fin {P : Program} {g : FuncId} {args : List AV} (hk : kr < n) (hkc : kc < n) (hne : kr ≠ kc)
   (h : Zx P g args H n fun res H1 n' => (∃ x q a, res = .val (.tup []) ∧ r = Option.some (x, q) ∧ q ≤ b.length ∧ H1 kr = Option.some (rdO b q) ∧ H1 kc = Option.some (.arr 0 6 [a]) ∧ Frz H1 n a (f x) ∧ ∀ k, k < n → k ≠ kr → k ≠ kc → H1 k = H k) ∨ (r = Option.none ∧ res = .pan torn ∧ n ≤ n' ∧ ∀ k, k < n → k ≠ kr → k ≠ kc → H1 k = H k)) :
   Zx P g args H n (StR torn kr kc b f H n r) :=
 M5 (h.mono fun res H1 n' hd => by
   rcases hd with ⟨x, q, a, h1, h2, h3, h4, h5, h6, h7⟩ | ⟨h1, h2, h3, h4⟩
   ·refine .inl ⟨.tup [], .tup [], (H.put kr (Option.some (rdO b q))).put kc (Option.some (.arr 0 6 [f x])), h1, fun k hk2 => ?_, fun k hk2 => by rw [ME _ _ (by omega), ME _ _ (by omega)], .tup .nil, StR.som h2 rfl h3 (by rw [ME _ _ hne, MG]) (MG _ _ _) fun k e1 e2 e3 => by rw [ME _ _ e3, ME _ _ e2]⟩
    by_cases e : k = kc
    ·subst e
     exact .inr ⟨0, 6, [a], [f x], h5, MG _ _ _, .cons h6 .nil⟩
    ·rw [LowO, ME _ _ e]
     by_cases e2 : k = kr
     ·subst e2
      rw [MG, h4]
      exact .inl ⟨rfl, .inr fun o ho => by cases ho; exact ⟨⟨ZJ b n, trivial, trivial⟩, trivial⟩⟩
     ·rw [ME _ _ e2, h7 k hk2 e2 e]
      exact .inl ⟨rfl, .inl rfl⟩
   ·exact .inr ⟨torn, h2, StR.non h1 h3 h4⟩)
end
def rpi (i : Nat) (b : List UInt8) (r : RepE) (p : Nat) : Option (RepE × Nat) := match i with
 | 0 => rp1 b r p
 | 1 => rp2 b r p
 | _ => rp3 b r p
def rpch (b : List UInt8) : Nat → Option (RepE × Nat)
 | 0 => some (zr, 0)
 | i + 1 => (rpch b i).bind fun x => rpi i b x.1 x.2
theorem rpch_none {b : List UInt8} {i : Nat} (h : rpch b i = none) : ∀ j, rpch b (i + j) = none
 | 0 => h
 | j + 1 => by show (rpch b (i + j)).bind _ = none; rw [rpch_none h j]; rfl
theorem rpch_dead {b : List UInt8} {i k : Nat} (h : rpch b i = none) (hik : i ≤ k) : rpch b k = none := by
 have := rpch_none h (k - i)
 rwa [show i + (k - i) = k by omega] at this
theorem Lt (b : List UInt8) : UI b = (rpch b 3).bind fun x => if x.2 = b.length then some x.1 else none := by
 simp only [UI, rpch, rpi, Option.bind_some, Option.bind_assoc]
def decR (b : List UInt8) : RepE × Int :=
 if 1048576 < b.length then (zr, 2) else match UI b with
   | some r => if YU r = true ∧ repB r = b then (r, 0) else (zr, 147)
   | none => (zr, 147)
def repZ : AV := .agg [.int .i64 0, .bool false, .int .i64 0, .agg [.nilsl, .nilsl, .bool false]]
theorem repZ_wk : Wk repZ (repN zr) := Wk.agg ⟨.refl _, .refl _, .refl _, Wk.agg ⟨.refl _, .nilsl _, .refl _, trivial⟩, trivial⟩
theorem Je (H : Heap) (n : Nat) : Frz H n repZ (Zy zr) := .agg (.cons (.kl trivial) (.cons (.kl trivial) (.cons (.kl trivial) (.cons (.agg (.cons .nilsl (.cons .nilsl (.cons (.kl trivial) .nil)))) .nil))))
theorem Jp (r : RepE) (n : Nat) : (Zy r).kl n := ⟨trivial, trivial, trivial, ⟨Xl ZO (fun x => LQ x n) _, ZJ _ _, trivial, trivial⟩, trivial⟩
theorem rdRep_le {b : List UInt8} {r : RepE} (h : UI b = some r) : r.rows.length ≤ b.length ∧ (∀ x ∈ r.rows, x.cells.length ≤ b.length) ∧ r.token.length ≤ b.length := by
 simp only [UI, Option.bind_eq_some_iff] at h
 obtain ⟨⟨c1, p1⟩, h1, ⟨c2, p2⟩, h2, ⟨c3, p3⟩, h3, h6⟩ := h
 split at h6
 ·cases h6
  simp only [rp2, Option.bind_eq_some_iff] at h2
  obtain ⟨⟨l, q⟩, g1, g2⟩ := h2
  simp only [Option.some.injEq, Prod.mk.injEq] at g2
  obtain ⟨rfl, rfl⟩ := g2
  simp only [rp3, Option.bind_eq_some_iff] at h3
  obtain ⟨⟨t, q2⟩, g3, ⟨d, q3⟩, g4, g5⟩ := h3
  simp only [Option.some.injEq, Prod.mk.injEq] at g5
  obtain ⟨rfl, rfl⟩ := g5
  exact ⟨(rdRows_le g1).2, rdRows_all g1, by have := ZV g3; show t.length ≤ _; omega⟩
 ·cases h6
end Go.Rt
namespace Go.Proofs.YtifnhpmeoogedaaGreatDoor
open Go Go.Sx Go.Rt Go.Proofs Tryz
theorem c_order_shown (x : CelE) (H : Heap) (n : Nat) : Ret prog 133 [Z7 x] H n (.bool (VA x)) H n := by
 refine Ret.fin ?_
 refine Zc func133 rfl ntmps133 (congrArg Array.toList results133) (by simp) ?_
 simp only [go_sem]
 refine Za zs [1] fun K Y => ?_
 simp only [go_sem, seval, Z7]
 apply Y; clear Y K
 refine Za zs [2] fun K Y => ?_
 simp only [go_sem, seval]
 refine Zg func48 rfl rfl rfl ((ZU x.fam 0 7 _ _)) ?_
 simp only [go_sem, seval, List.length_map]
 repeat refine peel ?_
 refine Zv func48 rfl rfl rfl (fun _ => (ZU x.ts 1 1099511627776 _ _)) ?_
 simp only [go_sem, seval, List.length_map]
 repeat refine peel ?_
 apply Y; clear Y K
 refine Zf ?_
 simp only [go_sem, seval]
 refine ⟨_, rfl, ?_, Frz.eq ?_ trivial⟩
 ·intro k hk; rw [if_neg (by omega)]
 ·simp [VA]
set_option maxRecDepth 100000 in
theorem Ua (r : RepE) (hr : r.rows.length ≤ 1048576) (hc : ∀ x ∈ r.rows, x.cells.length ≤ 1048576) (H : Heap) (n : Nat) : Ret prog 85 [Zy r] H n (.bool (YU r)) H n := by
 have hrz : ∀ x, (ZO x).sz = 2 := fun _ => rfl
 have hrg : ∀ x, (ZO x).isAgg = true := fun _ => rfl
 have hrm : ∀ x, (ZO x).memOK = true := fun _ => rfl
 have hcz : ∀ x, (Z7 x).sz = 4 := fun _ => rfl
 have hcg : ∀ x, (Z7 x).isAgg = true := fun _ => rfl
 have hcm : ∀ x, (Z7 x).memOK = true := fun _ => rfl
 refine Ret.fin ?_
 refine Zc func85 rfl ntmps85 (congrArg Array.toList results85) (by simp) ?_
 simp only [go_sem]
 refine Za zs [1] fun K Y => ?_
 simp only [go_sem, seval, Zy]
 apply Y; clear Y K
 refine Zb fun K1 hK1 => ?_
 refine Za zs [1, 21] fun K Y => ?_
 simp only [go_sem, seval]
 refine Zg func48 rfl rfl rfl ((ZU r.err 0 999 _ _)) ?_
 simp only [go_sem, seval, List.length_map]
 repeat refine peel ?_
 apply Y; clear Y K
 refine Ze ?_ ?_ <;> intro hb
 ·have hh : Jr r = true := hb
  have hs : YU r = false := by simp [YU, hh]
  refine Za zs [2] fun K Y => ?_
  simp only [go_sem, seval]
  apply Y; clear Y K
  refine Zf ?_
  simp only [go_sem, seval]
  refine ⟨_, rfl, fun k hk => ?_, Frz.eq (by rw [hs]) trivial⟩
  (repeat rw [if_neg (by omega)])
  try first | rfl | exact hlow k hk
 have hh : Jr r = false := hb
 refine Zd ?_
 simp only [go_sem, seval]
 apply hK1
 clear hK1 K1
 refine Zb fun K2 hK2 => ?_
 refine Za zs [24, 25, 26] fun K Y => ?_
 simp only [go_sem, seval, List.length_map]
 apply Y; clear Y K
 refine Zj ?_
 refine Zz (fun T' H' n' => ∃ i : Nat, i ≤ r.rows.length ∧ T' = tl [(24, .sl 2 (r.rows.map ZO)), (25, .int .i64 r.rows.length), (26, .int .i64 i)] ∧ (∀ k, k < n → H' k = H k) ∧ n ≤ n' ∧ r.rows.all QE = (r.rows.drop i).all QE) (fun T' _ _ => r.rows.length - iv (T' 26)) ?_ ?_
 ·exact ⟨0, Nat.zero_le _, rfl, fun k hk => by rw [ME _ _ (by omega)], by omega, by simp⟩
 intro T1 H1 n1
 rintro ⟨i, hi, rfl, hlow, hnn, hix⟩
 refine Za zs [24, 25, 26, 27] fun K Y => ?_
 simp only [go_sem, seval]
 apply Y; clear Y K
 refine Zb fun K3 hK3 => ?_
 refine Ze ?_ ?_ <;> intro hb
 ·have hlt : i < r.rows.length := by have := of_decide_eq_true hb; omega
  rw [WV _ _ hlt] at hix
  have hn1 : nth (r.rows.map ZO) i = ZO (r.rows.getD i default) := ZF ZO r.rows i hlt
  have hcx := hc (r.rows.getD i default) (X8 _ hlt)
  generalize r.rows.getD i default = x at *
  refine Zd ?_
  simp only [go_sem, seval]
  apply hK3
  clear hK3 K3
  refine Zb fun K4 hK4 => ?_
  refine Zj ?_
  refine Za zs [4, 24, 25, 26] fun K Y => ?_
  simp only [go_sem, seval, List.length_map, hrz, hrg, hrm, Int.toNat_natCast, hn1]
  repeat refine peel ?_
  apply Y; clear Y K
  refine Zb fun K5 hK5 => ?_
  refine Za zs [4, 24, 25, 26, 33] fun K Y => ?_
  simp only [go_sem, seval, List.length_map, ZO, bys]
  refine Zg func48 rfl rfl rfl ((ZU x.row.length 1 256 _ _)) ?_
  apply Y; clear Y K
  refine Ze ?_ ?_ <;> intro hb
  ·have hs : YU r = false := by unfold YU; rw [hix]; simp [QE, hb]
   refine Za zs [2] fun K Y => ?_
   simp only [go_sem, seval]
   apply Y; clear Y K
   refine Zf ?_
   simp only [go_sem, seval]
   refine ⟨_, rfl, fun k hk => ?_, Frz.eq (by rw [hs]) trivial⟩
   (repeat rw [if_neg (by omega)])
   try first | rfl | exact hlow k hk
  have hro : bout x.row.length 1 256 = false := hb
  refine Zd ?_
  simp only [go_sem, seval]
  apply hK5
  clear hK5 K5
  refine Za zs [24, 25, 26, 35, 36, 37] fun K Y => ?_
  simp only [go_sem, seval, List.length_map]
  apply Y; clear Y K
  refine Zj ?_
  refine Zz (fun T' H' n' => ∃ j : Nat, j ≤ x.cells.length ∧ T' = tl [(24, .sl 2 (r.rows.map ZO)), (25, .int .i64 r.rows.length), (26, .int .i64 i), (35, .sl 4 (x.cells.map Z7)), (36, .int .i64 x.cells.length), (37, .int .i64 j)] ∧ (∀ k, k < n → H' k = H k) ∧ n ≤ n' ∧ x.cells.all VA = (x.cells.drop j).all VA) (fun T' _ _ => x.cells.length - iv (T' 37)) ?_ ?_
  ·exact ⟨0, Nat.zero_le _, rfl, fun k hk => by rw [ME _ _ (by omega)]; exact hlow k hk, by omega, by simp⟩
  intro T1 H1 n1
  rintro ⟨j, hj, rfl, hlow, hnn, hjx⟩
  refine Za zs [24, 25, 26, 35, 36, 37, 38] fun K Y => ?_
  simp only [go_sem, seval]
  apply Y; clear Y K
  refine Zb fun K6 hK6 => ?_
  refine Ze ?_ ?_ <;> intro hb
  ·have hlt2 : j < x.cells.length := by have := of_decide_eq_true hb; omega
   rw [WV _ _ hlt2] at hjx
   have hn2 : nth (x.cells.map Z7) j = Z7 (x.cells.getD j default) := ZF Z7 x.cells j hlt2
   generalize x.cells.getD j default = y at *
   refine Zd ?_
   simp only [go_sem, seval]
   apply hK6
   clear hK6 K6
   refine Zb fun K7 hK7 => ?_
   refine Zj ?_
   refine Za zs [6, 24, 25, 26, 35, 36, 37] fun K Y => ?_
   simp only [go_sem, seval, List.length_map, hcz, hcg, hcm, Int.toNat_natCast, hn2]
   repeat refine peel ?_
   apply Y; clear Y K
   refine Za zs [24, 25, 26, 35, 36, 37, 43] fun K Y => ?_
   simp only [go_sem, seval, hcz, hcg]
   refine Zg func133 rfl rfl rfl ((c_order_shown y _ _)) ?_
   simp only [go_sem, seval]
   apply Y; clear Y K
   refine Ze ?_ ?_ <;> intro hb
   ·have h9 : VA y = false := by simpa using hb
    have hs : YU r = false := by unfold YU; rw [hix]; simp [QE, hjx, h9]
    refine Za zs [2] fun K Y => ?_
    simp only [go_sem, seval]
    apply Y; clear Y K
    refine Zf ?_
    simp only [go_sem, seval]
    refine ⟨_, rfl, fun k hk => ?_, Frz.eq (by rw [hs]) trivial⟩
    (repeat rw [if_neg (by omega)])
    try first | rfl | exact hlow k hk
   have h9 : VA y = true := by simpa using hb
   rw [h9, Bool.true_and] at hjx
   refine Zd ?_
   simp only [go_sem, seval]
   apply hK7
   clear hK7 K7
   refine Zl zs [24, 25, 26, 35, 36, 37] fun K Y => ?_
   simp only [go_sem, seval]
   apply Y; clear Y K
   simp only [go_sem, seval]
   refine ⟨⟨j + 1, by omega, by rw [w1 (by omega)], fun k hk => ?_, by omega, hjx⟩, by rw [w1 (by omega)]; simp; omega⟩
   (repeat rw [if_neg (by omega)])
   exact hlow k hk
  have hall : QE x = true := by have : j = x.cells.length := (by have := of_decide_eq_false hb; omega); simp [QE, hro, hjx, this]
  rw [hall, Bool.true_and] at hix
  refine ZA ?_
  simp only [go_sem, seval]
  apply hK4
  refine Zl zs [24, 25, 26] fun K Y => ?_
  simp only [go_sem, seval]
  apply Y; clear Y K
  simp only [go_sem, seval]
  refine ⟨⟨i + 1, by omega, by rw [w1 (by omega)], hlow, by omega, hix⟩, by rw [w1 (by omega)]; simp; omega⟩
 have hs : YU r = true := by have : i = r.rows.length := (by have := of_decide_eq_false hb; omega); simp [YU, hh, hix, this]
 refine ZA ?_
 simp only [go_sem, seval]
 apply hK2
 refine Za zs [2] fun K Y => ?_
 simp only [go_sem, seval]
 apply Y; clear Y K
 refine Zf ?_
 simp only [go_sem, seval]
 refine ⟨_, rfl, fun k hk => ?_, Frz.eq (by rw [hs]) trivial⟩
 (repeat rw [if_neg (by omega)])
 try first | rfl | exact hlow k hk
set_option maxRecDepth 100000 in
set_option maxHeartbeats 3200000 in
theorem LK (r : RepE) (hs : YU r = true) (hc : ∀ x ∈ r.rows, x.cells.length ≤ 1048576) (ht : r.token.length ≤ 1099511627776) (H : Heap) (n : Nat) :
   Zx prog 86 [Zy r] H n fun res H' n' => ∃ ver, res = .val (.osl (n + 2) ver 0 (repB r).length) ∧ H' (n + 2) = some (.arr ver 1 ((repB r).map Zn)) ∧ n + 3 ≤ n' ∧ ∀ k, k < n → H' k = H k := by
 have r1 : (0 : Nat) = 0 := rfl
 have r4 := r1
 have r6 := r1
 have hw1 := r1
 obtain ⟨hl, hrw⟩ := soundB_le hs
 have hur : u64 (r.rows.length : Int) = r.rows.length := XD _ (by omega)
 have hrz : ∀ x, (ZO x).sz = 2 := fun _ => rfl
 have hrg : ∀ x, (ZO x).isAgg = true := fun _ => rfl
 have hrm : ∀ x, (ZO x).memOK = true := fun _ => rfl
 have hcz : ∀ x, (Z7 x).sz = 4 := fun _ => rfl
 have hcg : ∀ x, (Z7 x).isAgg = true := fun _ => rfl
 have hcm : ∀ x, (Z7 x).memOK = true := fun _ => rfl
 refine Zc func86 rfl ntmps86 (congrArg Array.toList results86) (by simp) ?_
 simp only [go_sem]
 refine Za zs [1] fun K Y => ?_
 simp only [go_sem, seval, Zy, AV.memOK.eq_5]
 apply Y; clear Y K
 refine Za zs [1, 3] fun K Y => ?_
 simp only [go_sem, seval, AV.memOK.eq_5]
 apply Y; clear Y K
 refine Xk (n + 1) 1 (els' := [.agg [.osl (n + 2) 0 0 0]]) (MG _ _ _) ⟨Adp.agg ⟨Adp.nilsl _, trivial⟩, trivial⟩ ?_
 refine Yh (fun H' n' => WS H n [(n, .arr 0 6 [Zy r])] (n + 1) (n + 2) (0) ([]) H' n') ⟨⟨⟨0, by simp [Heap.put], by simp [Heap.put]⟩, by omega, by omega, by omega, by simp⟩, fun p hp => by rw [List.mem_singleton.1 hp]; exact ⟨by simp [Heap.put, Zy, bys], by simp, by simp, by show n < n + 2 + 1; omega⟩, fun k hk => by simp only [MF]; repeat rw [if_neg (by omega)], by omega, by omega⟩ fun H1 n1 hS => ?_
 have r1 := hS.get (n) (.arr 0 6 [Zy r]) (by simp)
 refine Za zs [1, 3] fun K Y => ?_
 simp only [go_sem, seval, r1, Zy]
 refine Zi (args' := [.loc (n + 1) 0 0 0 [], .int .i64 (r.err)]) func114 rfl rfl rfl (ZG hS.w (r.err) (by omega)) ?_ ?_
 rotate_left
 ·intro p H' n' h; cases h.1
 rintro rr G m hW9
 cases hW9.1
 have hS := hS.call hW9
 have r1 := hS.get (n) (.arr 0 6 [Zy r]) (by simp)
 clear hW9
 apply Y; clear Y K
 refine Za zs [1, 3] fun K Y => ?_
 simp only [go_sem, seval, r1, Zy]
 refine Zi (args' := [.loc (n + 1) 0 0 0 [], .bool (r.held)]) func117 rfl rfl rfl (XY hS.w (r.held) (by omega)) ?_ ?_
 rotate_left
 ·intro p H' n' h; cases h.1
 rintro rr G m hW9
 cases hW9.1
 have hS := hS.call hW9
 have r1 := hS.get (n) (.arr 0 6 [Zy r]) (by simp)
 clear hW9
 apply Y; clear Y K
 refine Za zs [1, 3] fun K Y => ?_
 simp only [go_sem, seval, r1, Zy]
 refine Zi (args' := [.loc (n + 1) 0 0 0 [], .int .i64 (r.value)]) func114 rfl rfl rfl (ZG hS.w (r.value) (by omega)) ?_ ?_
 rotate_left
 ·intro p H' n' h; cases h.1
 rintro rr G m hW9
 cases hW9.1
 have hS := hS.call hW9
 have r1 := hS.get (n) (.arr 0 6 [Zy r]) (by simp)
 clear hW9
 apply Y; clear Y K
 refine Za zs [1, 3] fun K Y => ?_
 simp only [go_sem, seval, r1, Zy, List.length_map]
 refine Zi (args' := [.loc (n + 1) 0 0 0 [], .int .i64 (r.rows.length)]) func114 rfl rfl rfl (ZG hS.w (r.rows.length) (by omega)) ?_ ?_
 rotate_left
 ·intro p H' n' h; cases h.1
 rintro rr G m hW9
 cases hW9.1
 have hS := hS.call hW9
 have r1 := hS.get (n) (.arr 0 6 [Zy r]) (by simp)
 clear hW9
 apply Y; clear Y K
 refine Zb fun K1 hK1 => ?_
 refine Za zs [1, 3, 30, 31, 32] fun K Y => ?_
 simp only [go_sem, seval, r1, Zy, List.length_map]
 apply Y; clear Y K
 refine Zj ?_
 refine Zz (fun T' H' n' => ∃ i : Nat, i ≤ r.rows.length ∧ T' = tl [(1, .loc n 0 0 0 []), (3, .loc (n + 1) 0 0 0 []), (30, .sl 2 (r.rows.map ZO)), (31, .int .i64 r.rows.length), (32, .int .i64 i)] ∧ WS H n [(n, .arr 0 6 [Zy r])] (n + 1) (n + 2) (100 + 5000000000 * i) (Zm (u64 r.err) ++ Wx r.held ++ Zm (u64 r.value) ++ Zm r.rows.length ++ (r.rows.take i).flatMap rowB) H' n') (fun T' _ _ => r.rows.length - iv (T' 32)) ?_ ?_
 ·exact ⟨0, by omega, rfl, (hS.up (by omega)).eq (by simp [hur])⟩
 intro T1 H1 n1
 rintro ⟨i, hi, rfl, hS⟩
 refine Za zs [1, 3, 30, 31, 32, 33] fun K Y => ?_
 simp only [go_sem, seval, Zy]
 apply Y; clear Y K
 refine Zb fun K2 hK2 => ?_
 refine Ze ?_ ?_ <;> intro hb
 ·have hlt : i < r.rows.length := by simpa using hb
  have hfl := Xd rowB r.rows hlt
  have hmem := X8 r.rows hlt
  have hnth : nth (r.rows.map ZO) i = ZO (r.rows.getD i default) := ZF ZO r.rows i hlt
  generalize r.rows.getD i default = x at *
  obtain ⟨hx1, hx2⟩ := hrw x hmem
  have hxc := hc x hmem
  have huc : u64 (x.cells.length : Int) = x.cells.length := XD _ (by omega)
  have r1 := hS.get (n) (.arr 0 6 [Zy r]) (by simp)
  refine Zd ?_
  simp only [go_sem, seval, Zy]
  apply hK2
  clear hK2 K2
  refine Zb fun K3 hK3 => ?_
  refine Zj ?_
  refine Za zs [1, 3, 5, 30, 31, 32] fun K Y => ?_
  simp only [go_sem, seval, Zy, List.length_map, hrz, hrg, hrm, Int.toNat_natCast, hnth]
  repeat refine peel ?_
  apply Y; clear Y K
  refine Yh (fun H' n' => WS H n [(n1, .arr 0 2 [ZO x]), (n, .arr 0 6 [Zy r])] (n + 1) (n + 2) (100 + 5000000000 * i) (Zm (u64 r.err) ++ Wx r.held ++ Zm (u64 r.value) ++ Zm r.rows.length ++ (r.rows.take i).flatMap rowB) H' n') ((hS.on (fun k hk => by simp only [MF]; repeat rw [if_neg (by omega)]) (by omega)).add (by simp [Heap.put]) (by have := hS.w.lw; omega) (by have := hS.w.lb; omega) (by omega)) fun H1 n1' hS => ?_
  generalize n1 = kx at *
  have r1 := hS.get (n) (.arr 0 6 [Zy r]) (by simp)
  have r4 := hS.get (kx) (.arr 0 2 [ZO x]) (by simp)
  refine Za zs [1, 3, 5, 30, 31, 32] fun K Y => ?_
  simp only [go_sem, seval, r4, Zy, ZO]
  refine Zi (args' := [.loc (n + 1) 0 0 0 [], bys (x.row)]) func115 rfl rfl rfl (ZM hS.w (x.row) (by omega) (by omega)) ?_ ?_
  rotate_left
  ·intro p H' n' h; cases h.1
  rintro rr G m hW9
  cases hW9.1
  have hS := hS.call hW9
  have r1 := hS.get (n) (.arr 0 6 [Zy r]) (by simp)
  have r4 := hS.get (kx) (.arr 0 2 [ZO x]) (by simp)
  clear hW9
  apply Y; clear Y K
  refine Za zs [1, 3, 5, 30, 31, 32] fun K Y => ?_
  simp only [go_sem, seval, r4, Zy, List.length_map, ZO]
  refine Zi (args' := [.loc (n + 1) 0 0 0 [], .int .i64 (x.cells.length)]) func114 rfl rfl rfl (ZG hS.w (x.cells.length) (by omega)) ?_ ?_
  rotate_left
  ·intro p H' n' h; cases h.1
  rintro rr G m hW9
  cases hW9.1
  have hS := hS.call hW9
  have r1 := hS.get (n) (.arr 0 6 [Zy r]) (by simp)
  have r4 := hS.get (kx) (.arr 0 2 [ZO x]) (by simp)
  clear hW9
  apply Y; clear Y K
  refine Za zs [1, 3, 30, 31, 32, 46, 47, 48] fun K Y => ?_
  simp only [go_sem, seval, r4, Zy, List.length_map, ZO]
  apply Y; clear Y K
  refine Zj ?_
  refine Zz (fun T' H' n' => ∃ j : Nat, j ≤ x.cells.length ∧ T' = tl [(1, .loc n 0 0 0 []), (3, .loc (n + 1) 0 0 0 []), (30, .sl 2 (r.rows.map ZO)), (31, .int .i64 r.rows.length), (32, .int .i64 i), (46, .sl 4 (x.cells.map Z7)), (47, .int .i64 x.cells.length), (48, .int .i64 j)] ∧ WS H n [(kx, .arr 0 2 [ZO x]), (n, .arr 0 6 [Zy r])] (n + 1) (n + 2) (500 + 5000000000 * i + 4400 * j) (Zm (u64 r.err) ++ Wx r.held ++ Zm (u64 r.value) ++ Zm r.rows.length ++ (r.rows.take i).flatMap rowB ++ Zp x.row ++ Zm x.cells.length ++ (x.cells.take j).flatMap celB) H' n') (fun T' _ _ => x.cells.length - iv (T' 48)) ?_ ?_
  ·exact ⟨0, by omega, rfl, (hS.up (by omega)).eq (by simp [huc])⟩
  intro T1 H1 n1
  rintro ⟨j, hj, rfl, hS⟩
  refine Za zs [1, 3, 30, 31, 32, 46, 47, 48, 49] fun K Y => ?_
  simp only [go_sem, seval, Zy]
  apply Y; clear Y K
  refine Zb fun K4 hK4 => ?_
  refine Ze ?_ ?_ <;> intro hb
  ·have hlt2 : j < x.cells.length := by simpa using hb
   have hfl2 := Xd celB x.cells hlt2
   have hmem2 := X8 x.cells hlt2
   have hnth2 : nth (x.cells.map Z7) j = Z7 (x.cells.getD j default) := ZF Z7 x.cells j hlt2
   generalize x.cells.getD j default = y at *
   obtain ⟨hy1, hy2⟩ := hx2 y hmem2
   have r1 := hS.get (n) (.arr 0 6 [Zy r]) (by simp)
   have r4 := hS.get (kx) (.arr 0 2 [ZO x]) (by simp)
   refine Zd ?_
   simp only [go_sem, seval, Zy]
   apply hK4
   clear hK4 K4
   refine Zb fun K5 hK5 => ?_
   refine Zj ?_
   refine Za zs [1, 3, 7, 30, 31, 32, 46, 47, 48] fun K Y => ?_
   simp only [go_sem, seval, Zy, List.length_map, hcz, hcg, hcm, Int.toNat_natCast, hnth2]
   repeat refine peel ?_
   apply Y; clear Y K
   refine Yh (fun H' n' => WS H n [(n1, .arr 0 4 [Z7 y]), (kx, .arr 0 2 [ZO x]), (n, .arr 0 6 [Zy r])] (n + 1) (n + 2) (500 + 5000000000 * i + 4400 * j) (Zm (u64 r.err) ++ Wx r.held ++ Zm (u64 r.value) ++ Zm r.rows.length ++ (r.rows.take i).flatMap rowB ++ Zp x.row ++ Zm x.cells.length ++ (x.cells.take j).flatMap celB) H' n') ((hS.on (fun k hk => by simp only [MF]; repeat rw [if_neg (by omega)]) (by omega)).add (by simp [Heap.put]) (by have := hS.w.lw; omega) (by have := hS.w.lb; omega) (by omega)) fun H1 n1' hS => ?_
   generalize n1 = ky at *
   have r1 := hS.get (n) (.arr 0 6 [Zy r]) (by simp)
   have r4 := hS.get (kx) (.arr 0 2 [ZO x]) (by simp)
   have r6 := hS.get (ky) (.arr 0 4 [Z7 y]) (by simp)
   refine Za zs [1, 3, 7, 30, 31, 32, 46, 47, 48] fun K Y => ?_
   simp only [go_sem, seval, r6, Zy, Z7]
   refine Zi (args' := [.loc (n + 1) 0 0 0 [], .int .i64 (y.fam)]) func113 rfl rfl rfl (Ye hS.w (y.fam) (by omega)) ?_ ?_
   rotate_left
   ·intro p H' n' h; cases h.1
   rintro rr G m hW9
   cases hW9.1
   have hS := hS.call hW9
   have r1 := hS.get (n) (.arr 0 6 [Zy r]) (by simp)
   have r4 := hS.get (kx) (.arr 0 2 [ZO x]) (by simp)
   have r6 := hS.get (ky) (.arr 0 4 [Z7 y]) (by simp)
   clear hW9
   apply Y; clear Y K
   refine Za zs [1, 3, 7, 30, 31, 32, 46, 47, 48] fun K Y => ?_
   simp only [go_sem, seval, r6, Zy, Z7]
   refine Zi (args' := [.loc (n + 1) 0 0 0 [], bys (y.qual)]) func115 rfl rfl rfl (ZM hS.w (y.qual) (by omega) (by omega)) ?_ ?_
   rotate_left
   ·intro p H' n' h; cases h.1
   rintro rr G m hW9
   cases hW9.1
   have hS := hS.call hW9
   have r1 := hS.get (n) (.arr 0 6 [Zy r]) (by simp)
   have r4 := hS.get (kx) (.arr 0 2 [ZO x]) (by simp)
   have r6 := hS.get (ky) (.arr 0 4 [Z7 y]) (by simp)
   clear hW9
   apply Y; clear Y K
   refine Za zs [1, 3, 7, 30, 31, 32, 46, 47, 48] fun K Y => ?_
   simp only [go_sem, seval, r6, Zy, Z7]
   refine Zi (args' := [.loc (n + 1) 0 0 0 [], .int .i64 (y.ts)]) func114 rfl rfl rfl (ZG hS.w (y.ts) (by omega)) ?_ ?_
   rotate_left
   ·intro p H' n' h; cases h.1
   rintro rr G m hW9
   cases hW9.1
   have hS := hS.call hW9
   have r1 := hS.get (n) (.arr 0 6 [Zy r]) (by simp)
   have r4 := hS.get (kx) (.arr 0 2 [ZO x]) (by simp)
   have r6 := hS.get (ky) (.arr 0 4 [Z7 y]) (by simp)
   clear hW9
   apply Y; clear Y K
   refine Zl zs [1, 3, 30, 31, 32, 46, 47, 48] fun K Y => ?_
   simp only [go_sem, seval, r6, Zy, Z7]
   refine Zi (args' := [.loc (n + 1) 0 0 0 [], bys (y.value)]) func115 rfl rfl rfl (ZM hS.w (y.value) (by omega) (by omega)) ?_ ?_
   rotate_left
   ·intro p H' n' h; cases h.1
   rintro rr G m hW9
   cases hW9.1
   have hS := hS.call hW9
   have r1 := hS.get (n) (.arr 0 6 [Zy r]) (by simp)
   have r4 := hS.get (kx) (.arr 0 2 [ZO x]) (by simp)
   have r6 := hS.get (ky) (.arr 0 4 [Z7 y]) (by simp)
   clear hW9
   apply Y; clear Y K
   simp only [go_sem, seval, Zy]
   apply hK5
   clear hK5 K5
   refine Zl zs [1, 3, 30, 31, 32, 46, 47, 48] fun K Y => ?_
   simp only [go_sem, seval, Zy]
   apply Y; clear Y K
   simp only [go_sem, seval, Zy]
   refine ⟨⟨j + 1, by omega, by rw [w1 (by omega)], (hS.drop.up (by omega)).eq (by rw [hfl2]; simp [celB])⟩, by rw [w1 (by omega)]; simp; omega⟩
  have hge : j = x.cells.length := by simp at hb; omega
  have hS := hS.eq (by rw [Xp celB x.cells (by omega)])
  refine ZA ?_
  simp only [go_sem, seval, Zy]
  apply hK3
  refine Zl zs [1, 3, 30, 31, 32] fun K Y => ?_
  simp only [go_sem, seval, Zy]
  apply Y; clear Y K
  simp only [go_sem, seval, Zy]
  refine ⟨⟨i + 1, by omega, by rw [w1 (by omega)], (hS.drop.up (by omega)).eq (by rw [hfl]; simp [rowB])⟩, by rw [w1 (by omega)]; simp; omega⟩
 have hge : i = r.rows.length := by simp at hb; omega
 have hS := hS.eq (by rw [Xp rowB r.rows (by omega)])
 have r1 := hS.get (n) (.arr 0 6 [Zy r]) (by simp)
 refine ZA ?_
 simp only [go_sem, seval, Zy]
 apply hK1
 refine Za zs [1, 3] fun K Y => ?_
 simp only [go_sem, seval, r1, Zy]
 refine Zi (args' := [.loc (n + 1) 0 0 0 [], bys (r.token)]) func115 rfl rfl rfl (ZM hS.w (r.token) (by omega) (by omega)) ?_ ?_
 rotate_left
 ·intro p H' n' h; cases h.1
 rintro rr G m hW9
 cases hW9.1
 have hS := hS.call hW9
 have r1 := hS.get (n) (.arr 0 6 [Zy r]) (by simp)
 clear hW9
 apply Y; clear Y K
 refine Za zs [3] fun K Y => ?_
 simp only [go_sem, seval, r1, Zy]
 refine Zi (args' := [.loc (n + 1) 0 0 0 [], .bool (r.done)]) func117 rfl rfl rfl (XY hS.w (r.done) (by omega)) ?_ ?_
 rotate_left
 ·intro p H' n' h; cases h.1
 rintro rr G m hW9
 cases hW9.1
 have hS := hS.call hW9
 have r1 := hS.get (n) (.arr 0 6 [Zy r]) (by simp)
 clear hW9
 apply Y; clear Y K
 have hS := hS.eq (bs' := repB r) (by simp [repB])
 obtain ⟨ver, hw1, hw2⟩ := hS.out
 refine Za zs [2] fun K Y => ?_
 simp only [go_sem, seval, hw1]
 apply Y; clear Y K
 refine Zf ?_
 simp only [go_sem, seval]
 exact ⟨ver, rfl, hw2, by have := hS.w.lb; omega, hS.low⟩
theorem VL (r : RepE) (hs : YU r = true) (hc : ∀ x ∈ r.rows, x.cells.length ≤ 1048576) (ht : r.token.length ≤ 1099511627776) (H : Heap) (n : Nat) : Ret prog 86 [Zy r] H n (bys (repB r)) H n :=
 Ret.fin ((LK r hs hc ht H n).mono fun res H1 n1 ⟨ver, hr, hk, hn, hlow⟩ => ⟨_, hr, hlow, .osl hk (by omega) (by simp) (by
   rw [List.drop_zero, List.take_of_length_le (by simp)]; exact YA _ (YE _ n))⟩)
theorem Vk (r : RepE) (hr : r.rows.length ≤ 1048576) (hc : ∀ x ∈ r.rows, x.cells.length ≤ 1048576) (ht : r.token.length ≤ 1099511627776) (H : Heap) (n : Nat) : Ret prog 33 [Zy r] H n (.tup [bys (encR r).1, .int .i64 (encR r).2]) H n := by
 have hrs : (Zy r).sz = 6 := Xv r
 have hrg : (Zy r).isAgg = true := rfl
 have hrm : (Zy r).memOK = true := rfl
 refine Ret.fin ?_
 refine Zc func33 rfl ntmps33 (congrArg Array.toList results33) (by simp) ?_
 simp only [go_sem]
 refine Za zs [1] fun K Y => ?_
 simp only [go_sem, seval, hrs, hrm]
 apply Y; clear Y K
 refine Zb fun K1 hK1 => ?_
 refine Za zs [1, 7] fun K Y => ?_
 simp only [go_sem, seval, hrs, hrg]
 refine Zg func85 rfl rfl rfl ((Ua r hr hc _ _)) ?_
 simp only [go_sem, seval]
 apply Y; clear Y K
 refine Ze ?_ ?_ <;> intro hb
 ·have hs : YU r = false := by simpa using hb
  have hd : encR r = ([], 147) := by unfold encR; rw [if_pos hs]
  refine Za zs [2, 3] fun K Y => ?_
  simp only [go_sem, seval]
  apply Y; clear Y K
  refine Zf ?_
  simp only [go_sem, seval]
  refine ⟨_, rfl, fun k hk => by rw [if_neg (by omega)], ?_⟩
  rw [hd]; first | exact .tup (.cons .nilsl (.cons (.kl trivial) .nil)) | exact .tup (.cons (.kl (ZJ _ _)) (.cons (.kl trivial) .nil))
 have hs : YU r = true := by simpa using hb
 refine Zd ?_
 simp only [go_sem, seval]
 apply hK1
 clear hK1 K1
 refine Za zs [4] fun K Y => ?_
 simp only [go_sem, seval, hrs, hrg]
 refine Zg func86 rfl rfl rfl ((VL r hs hc ht _ _)) ?_
 simp only [go_sem, seval]
 apply Y; clear Y K
 refine Zb fun K2 hK2 => ?_
 refine Za zs [4, 12] fun K Y => ?_
 simp only [go_sem, seval, List.length_map]
 apply Y; clear Y K
 refine Ze ?_ ?_ <;> intro hb
 ·have hd : encR r = ([], 2) := by have h9 : 1048576 < (repB r).length := (by simp at hb; omega); unfold encR; rw [hs, if_neg (by simp), if_pos h9]
  refine Za zs [2, 3] fun K Y => ?_
  simp only [go_sem, seval]
  apply Y; clear Y K
  refine Zf ?_
  simp only [go_sem, seval]
  refine ⟨_, rfl, fun k hk => by rw [if_neg (by omega)], ?_⟩
  rw [hd]; first | exact .tup (.cons .nilsl (.cons (.kl trivial) .nil)) | exact .tup (.cons (.kl (ZJ _ _)) (.cons (.kl trivial) .nil))
 have hd : encR r = (repB r, 0) := by have h9 : ¬ 1048576 < (repB r).length := (by simp at hb; omega); unfold encR; rw [hs, if_neg (by simp), if_neg h9]
 refine Zd ?_
 simp only [go_sem, seval]
 apply hK2
 clear hK2 K2
 refine Za zs [2, 3] fun K Y => ?_
 simp only [go_sem, seval]
 refine Zg func64 rfl rfl rfl ((V7 (repB r) _ _)) ?_
 simp only [go_sem, seval]
 apply Y; clear Y K
 refine Zf ?_
 simp only [go_sem, seval]
 refine ⟨_, rfl, fun k hk => by rw [if_neg (by omega)], ?_⟩
 rw [hd]; first | exact .tup (.cons .nilsl (.cons (.kl trivial) .nil)) | exact .tup (.cons (.kl (ZJ _ _)) (.cons (.kl trivial) .nil))
set_option maxRecDepth 100000 in
set_option maxHeartbeats 3200000 in
theorem c_order_row {b : List UInt8} {p kr : Nat} (hb9 : b.length ≤ 1048576) (hp : p ≤ b.length) {H : Heap} {n : Nat} (hk : kr < n) (hR : H kr = some (rdO b p)) : Zx prog 94 [.loc kr 0 0 0 []] H n (RdK torn kr b H n (rav ZO (X6 b p))) := by
 have hb9' := hb9
 replace hb9 : b.length ≤ 1099511627776 := by omega
 have hkn : (n = kr) = False := by simp; omega
 have hkn' : (kr = n) = False := by simp; omega
 have hkn1 : (n + 1 = kr) = False := by simp; omega
 have hkn1' : (kr = n + 1) = False := by simp; omega
 have hkn2 : (n + 2 = kr) = False := by simp; omega
 have hkn2' : (kr = n + 2) = False := by simp; omega
 have k1 := hR
 have k2 := hR
 have k4 := hR
 have k5 := hR
 refine RdK.fin hk ?_
 refine Zc func94 rfl ntmps94 (congrArg Array.toList results94) (by simp) ?_
 simp only [go_sem]
 refine Za zs [0, 2] fun K Y => ?_
 simp only [go_sem, seval]
 apply Y; clear Y K
 refine Za zs [0, 2, 3] fun K Y => ?_
 simp only [go_sem, seval, AV.memOK.eq_5]
 refine Zi (args' := [.loc kr 0 0 0 []]) func71 rfl rfl rfl (ZN hb9 hp (by simp [Heap.put, hkn']; exact hR)) ?_ ?_
 rotate_left
 ·intro e9 H9 n9 h9
  obtain ⟨h1, rfl, h2, h3⟩ := h9.die
  refine .inr ⟨by unfold X6; simp [h1, rav], rfl, by omega, fun k hk hkr => (h3 k (by omega) hkr).trans ?_⟩
  (simp only [MF]; (repeat rw [if_neg (by omega)]); done)
 rintro rr H9 n9 h9
 obtain ⟨rw9, q1, g1, rfl, rfl, rfl⟩ := h9.get
 have hq1 := ZV g1
 simp only [go_sem, seval, AV.memOK.eq_5, bys, Nat.add_assoc]
 repeat refine peel ?_
 apply Y; clear Y K
 refine Zb fun K1 hK1 => ?_
 refine Za zs [0, 2, 3, 8, 9] fun K Y => ?_
 simp only [go_sem, seval]
 refine Zi (args' := [.loc kr 0 0 0 []]) func93 rfl rfl rfl (YN hb9 hq1.1 (by simp [Heap.put, hkn, hkn', hkn1, hkn1', hkn2, hkn2', k1])) ?_ ?_
 rotate_left
 ·intro e9 H9 n9 h9
  obtain ⟨h1, rfl, h2, h3⟩ := h9.die
  refine .inr ⟨by unfold X6; simp [g1, Ym, h1, rav], rfl, by omega, fun k hk hkr => (h3 k (by omega) hkr).trans ?_⟩
  (simp only [MF]; (repeat rw [if_neg (by omega)]); done)
 rintro rr H9 n9 h9
 obtain ⟨cnt, q2, g2, rfl, rfl, rfl⟩ := h9.get
 have hq2 := WG g2
 apply Y; clear Y K
 refine Zj ?_
 refine Xk (n + 1) 4 (ver := 0) (e := 2) (els := [.agg [bys rw9, .nilsl]]) (els' := [.agg [bys rw9, .osl (n + 2) 0 0 0]]) (by simp [Heap.put, hkn1, bys]) ⟨.agg ⟨.refl _ _, .nilsl _, trivial⟩, trivial⟩ ?_
 refine Zz (fun T' H' n' => ∃ (i q ver : Nat) (acc : List CelE), i ≤ cnt ∧ acc.length = i ∧ q ≤ b.length ∧ T' = tl [(0, .loc kr 0 0 0 []), (2, .loc n 0 0 0 []), (3, .loc (n + 1) 0 0 0 []), (8, .int .i64 cnt), (9, .int .i64 i)] ∧ H' kr = some (rdO b q) ∧ H' (n + 1) = some (.arr 0 2 [.agg [bys rw9, .osl (n + 2) ver 0 acc.length]]) ∧ H' (n + 2) = some (.arr ver 4 (acc.map Z7)) ∧ H' n = some (.arr 0 2 [.agg [.nilsl, .nilsl]]) ∧ (∀ k, k < n → k ≠ kr → H' k = H k) ∧ n' = n + 3 ∧ Xh Xw b (cnt - i) q acc = Ym Xw b q1) (fun T' _ _ => cnt - iv (T' 9)) ?_ ?_
 ·refine ⟨0, q2, 0, [], Nat.zero_le _, rfl, by omega, rfl, by simp [Heap.put, hkn', hkn1', hkn2'], by simp [Heap.put], by simp [Heap.put], by simp [Heap.put, hkn], fun k hk2 hkr => by (simp only [MF]; (repeat rw [if_neg (by omega)])), rfl, ?_⟩
  unfold Ym; rw [g2]; rfl
 intro T1 H1 n1
 rintro ⟨i, q, ver, acc, hi, hal, hq, rfl, k1, k2, k4, k5, k3, rfl, hix⟩
 refine Za zs [0, 2, 3, 8, 9, 10] fun K Y => ?_
 simp only [go_sem, seval, bys]
 apply Y; clear Y K
 refine Zb fun K2 hK2 => ?_
 refine Ze ?_ ?_ <;> intro hb
 ·have hlt : i < cnt := by have := of_decide_eq_true hb; omega
  refine Zd ?_
  simp only [go_sem, seval, bys]
  apply hK2
  clear hK2 K2
  refine Zb fun K3 hK3 => ?_
  refine Zj ?_
  refine Qj rfl zs [0, 2, 3, 8, 9] [.q, .q, .m, .w [0, 1], .m, .w [0, 1], .m, .w [0, 1], .m, .w [0, 1], .q, .q, .w [], .q, .w []] [0, 1, 2, 4, 6, 8, 3, 5, 7, 9, 10, 11, 12, 13, 14] [0, 1, 2, 6, 3, 7, 4, 8, 5, 9, 10, 11, 12, 13, 14] (by kernel_rfl) (fun _ _ _ _ _ h => h) fun K Y => ?_
  simp only [go_sem, seval, k2, bys]
  refine Zi (args' := [.loc kr 0 0 0 []]) func67 rfl rfl rfl (Yf hb9 hq k1) ?_ ?_
  rotate_left
  ·intro e9 H9 n9 h9
   obtain ⟨h1, rfl, h2, h3⟩ := h9.die
   have hno : Xw b q = none := by unfold Xw; simp [h1]
   rw [ZY Xw b hlt, hno] at hix
   refine .inr ⟨by unfold X6; rw [g1, Option.bind_some, ← hix]; rfl, rfl, by omega, fun k hk hkr => (h3 k (by omega) hkr).trans ?_⟩
   exact k3 k hk hkr
  rintro rr H9 n9 h9
  obtain ⟨x1, qa, ga, rfl, rfl, rfl⟩ := h9.get
  have hqa := XR ga
  simp only [go_sem, seval, k2, hkn1, AV.memOK.eq_5, bys]
  refine Zi (args' := [.loc kr 0 0 0 []]) func71 rfl rfl rfl (ZN hb9 hqa.1 (MG _ _ _)) ?_ ?_
  rotate_left
  ·intro e9 H9 n9 h9
   obtain ⟨h1, rfl, h2, h3⟩ := h9.die
   have hno : Xw b q = none := by unfold Xw; simp [ga, h1]
   rw [ZY Xw b hlt, hno] at hix
   refine .inr ⟨by unfold X6; rw [g1, Option.bind_some, ← hix]; rfl, rfl, by omega, fun k hk hkr => (h3 k (by omega) hkr).trans ?_⟩
   (simp only [MF]; (repeat rw [if_neg (by omega)]); exact k3 k hk hkr)
  rintro rr H9 n9 h9
  obtain ⟨x2, qb, gb, rfl, rfl, rfl⟩ := h9.get
  have hqb := ZV gb
  simp only [go_sem, seval, k2, hkn1, AV.memOK.eq_5, bys]
  refine Zi (args' := [.loc kr 0 0 0 []]) func69 rfl rfl rfl (ZT hb9 hqb.1 (MG _ _ _)) ?_ ?_
  rotate_left
  ·intro e9 H9 n9 h9
   obtain ⟨h1, rfl, h2, h3⟩ := h9.die
   have hno : Xw b q = none := by unfold Xw; simp [ga, gb, h1]
   rw [ZY Xw b hlt, hno] at hix
   refine .inr ⟨by unfold X6; rw [g1, Option.bind_some, ← hix]; rfl, rfl, by omega, fun k hk hkr => (h3 k (by omega) hkr).trans ?_⟩
   (simp only [MF]; (repeat rw [if_neg (by omega)]); exact k3 k hk hkr)
  rintro rr H9 n9 h9
  obtain ⟨x3, qc, gc, rfl, rfl, rfl⟩ := h9.get
  have hqc := YP gc
  simp only [go_sem, seval, k2, hkn1, AV.memOK.eq_5, bys]
  refine Zi (args' := [.loc kr 0 0 0 []]) func71 rfl rfl rfl (ZN hb9 hqc.1 (MG _ _ _)) ?_ ?_
  rotate_left
  ·intro e9 H9 n9 h9
   obtain ⟨h1, rfl, h2, h3⟩ := h9.die
   have hno : Xw b q = none := by unfold Xw; simp [ga, gb, gc, h1]
   rw [ZY Xw b hlt, hno] at hix
   refine .inr ⟨by unfold X6; rw [g1, Option.bind_some, ← hix]; rfl, rfl, by omega, fun k hk hkr => (h3 k (by omega) hkr).trans ?_⟩
   (simp only [MF]; (repeat rw [if_neg (by omega)]); exact k3 k hk hkr)
  rintro rr H9 n9 h9
  obtain ⟨x4, qd, gd, rfl, rfl, rfl⟩ := h9.get
  have hqd := ZV gd
  simp only [go_sem, seval, k2, k4, hkn1, hkn2, List.length_map, AV.memOK.eq_5, bys]
  repeat (first | refine peel ?_ | (refine And.intro ?_ ?_; · first | exact ⟨rfl, by simp [AV.sz, AV.szs, AV.memOK]⟩ | exact ⟨by omega, .inr trivial, by omega, by omega⟩))
  apply Y; clear Y K
  simp only [go_sem, seval, bys]
  apply hK3
  clear hK3 K3
  refine Zl zs [0, 2, 3, 8, 9] fun K Y => ?_
  simp only [go_sem, seval, bys]
  apply Y; clear Y K
  simp only [go_sem, seval, k5, hkn, hkn1', hkn2', bys]
  refine ⟨⟨i + 1, qd, ver + 1, acc ++ [⟨x1, x2, x3, x4⟩], by omega, by simp [hal], hqd.1, by rw [w1 (by omega)], by simp [Heap.put, hkn', hkn1', hkn2'], ?_, ?_, fun k hk2 hkr => ?_, ?_⟩, by rw [w1 (by omega)]; simp; omega⟩
  ·simp [Heap.put, bys]
  ·simp [Heap.put, List.take_of_length_le, Z7, bys]
  ·first | exact k3 k hk2 hkr | ((repeat rw [if_neg (by omega)]); exact k3 k hk2 hkr) | (simp only [MF]; (repeat rw [if_neg (by omega)]); exact k3 k hk2 hkr)
  ·rw [← hix, ZY Xw b hlt]; unfold Xw; simp [ga, gb, gc, gd]
 have hge : i = cnt := by have := of_decide_eq_false hb; omega
 subst hge
 rw [Nat.sub_self] at hix
 have g4 : Ym Xw b q1 = some (acc, q) := hix.symm
 refine ZA ?_
 simp only [go_sem, seval, bys]
 apply hK1
 refine Za zs [2] fun K Y => ?_
 simp only [go_sem, seval, k2, k5, AV.memOK.eq_5, bys]
 apply Y; clear Y K
 refine Zf ?_
 simp only [go_sem, seval, k1, hkn']
 refine .inl ⟨_, ZO ⟨rw9, acc⟩, q, rfl, by unfold X6; simp [g1, g4, rav], rfl, fun k hk hkr => ?_, ?_⟩
 ·(repeat rw [if_neg (by omega)])
  exact k3 k hk hkr
 ·refine .agg (.cons (.kl (ZJ _ _)) (.cons (.osl (e := 4) (els := acc.map Z7) ?_ (by omega) (by simp) ?_) .nil))
  ·simp [Heap.put, hkn2, k4]
  ·rw [List.drop_zero, List.take_of_length_le (by simp)]
   exact YA _ (Xl Z7 (fun x => kl_celAV x n) acc)
set_option maxRecDepth 100000 in
set_option maxHeartbeats 3200000 in
theorem UF {b : List UInt8} {p kr kc : Nat} {r : RepE} (hb9 : b.length ≤ 1048576) (hp : p ≤ b.length) {H : Heap} {n : Nat} (hr : kr < n) (hc : kc < n) (h12 : kr ≠ kc) (hR : H kr = some (rdO b p)) (hC : H kc = some (.arr 0 6 [repN r])) : Zx prog 91 [.loc kr 0 0 0 [], .loc kc 0 0 0 []] H n (StR torn kr kc b repN H n (rp1 b r p)) := by
 have hb9' := hb9
 replace hb9 : b.length ≤ 1099511627776 := by omega
 have e1 : (kr = kc) = False := by simp [h12]
 have e1' : (kc = kr) = False := by simp [Ne.symm h12]
 refine Zc func91 rfl ntmps91 (congrArg Array.toList results91) (by simp) ?_
 simp only [go_sem]
 refine Zl zs [] fun K Y => ?_
 simp only [go_sem, seval]
 refine Zi (args' := [.loc kr 0 0 0 []]) func69 rfl rfl rfl (ZT hb9 hp hR) ?_ ?_
 rotate_left
 ·intro e9 H9 n9 h9
  obtain ⟨h1, rfl, h2, h3⟩ := h9.die
  refine .non (by unfold rp1; simp [h1]) (by omega) fun k hk1 hk2 hk3 => (h3 k (by omega) hk2).trans ?_
  rfl
 rintro rr H9 n9 h9
 obtain ⟨x, q1, g1, rfl, rfl, rfl⟩ := h9.get
 have hq1 := YP g1
 refine Zi (args' := [.loc kr 0 0 0 []]) func67 rfl rfl rfl (Yf hb9 hq1.1 (by simp [Heap.put, hR, e1, e1'])) ?_ ?_
 rotate_left
 ·intro e9 H9 n9 h9
  obtain ⟨h1, rfl, h2, h3⟩ := h9.die
  refine .non (by unfold rp1; simp [g1, h1]) (by omega) fun k hk1 hk2 hk3 => (h3 k (by omega) hk2).trans ?_
  (simp only [MF]; (repeat rw [if_neg (by omega)]))
 rintro rr H9 n9 h9
 obtain ⟨y, q2, g2, rfl, rfl, rfl⟩ := h9.get
 have hq2 := XR g2
 simp only [go_sem, seval]
 refine Zi (args' := [.loc kr 0 0 0 []]) func69 rfl rfl rfl (ZT hb9 hq2.1 (by simp [Heap.put, hR, e1, e1'])) ?_ ?_
 rotate_left
 ·intro e9 H9 n9 h9
  obtain ⟨h1, rfl, h2, h3⟩ := h9.die
  refine .non (by unfold rp1; simp [g1, g2, h1]) (by omega) fun k hk1 hk2 hk3 => (h3 k (by omega) hk2).trans ?_
  (simp only [MF]; (repeat rw [if_neg (by omega)]))
 rintro rr H9 n9 h9
 obtain ⟨z, q3, g3, rfl, rfl, rfl⟩ := h9.get
 have hq3 := YP g3
 simp only [go_sem, seval, hC, e1', repN, AV.memOK.eq_5, bys]
 apply Y; clear Y K
 simp only [go_sem, seval]
 refine .som (c := { r with err := x, held := y == 1, value := z }) (q := q3) (by unfold rp1; simp [g1, g2, g3]) rfl hq3.1 (by simp [Heap.put, e1, e1']) (by simp [Heap.put, e1, e1', repN, bys]) fun k hk1 hk2 hk3 => by simp only [MF]; (repeat rw [if_neg (by omega)])
set_option maxRecDepth 100000 in
set_option maxHeartbeats 3200000 in
theorem UD {b : List UInt8} {p kr kc : Nat} {r : RepE} (hb9 : b.length ≤ 1048576) (hp : p ≤ b.length) {H : Heap} {n : Nat} (hr : kr < n) (hc : kc < n) (h12 : kr ≠ kc) (hR : H kr = some (rdO b p)) (hC : H kc = some (.arr 0 6 [Zy r])) : Zx prog 95 [.loc kr 0 0 0 [], .loc kc 0 0 0 []] H n (StR torn kr kc b Zy H n (rp3 b r p)) := by
 have hb9' := hb9
 replace hb9 : b.length ≤ 1099511627776 := by omega
 have e1 : (kr = kc) = False := by simp [h12]
 have e1' : (kc = kr) = False := by simp [Ne.symm h12]
 refine Zc func95 rfl ntmps95 (congrArg Array.toList results95) (by simp) ?_
 simp only [go_sem]
 refine Zl zs [] fun K Y => ?_
 simp only [go_sem, seval]
 refine Zi (args' := [.loc kr 0 0 0 []]) func71 rfl rfl rfl (ZN hb9 hp hR) ?_ ?_
 rotate_left
 ·intro e9 H9 n9 h9
  obtain ⟨h1, rfl, h2, h3⟩ := h9.die
  refine .non (by unfold rp3; simp [h1]) (by omega) fun k hk1 hk2 hk3 => (h3 k (by omega) hk2).trans ?_
  rfl
 rintro rr H9 n9 h9
 obtain ⟨x, q1, g1, rfl, rfl, rfl⟩ := h9.get
 have hq1 := ZV g1
 simp only [go_sem, seval, bys]
 refine Zi (args' := [.loc kr 0 0 0 []]) func67 rfl rfl rfl (Yf hb9 hq1.1 (by simp [Heap.put, hR, e1, e1'])) ?_ ?_
 rotate_left
 ·intro e9 H9 n9 h9
  obtain ⟨h1, rfl, h2, h3⟩ := h9.die
  refine .non (by unfold rp3; simp [g1, h1]) (by omega) fun k hk1 hk2 hk3 => (h3 k (by omega) hk2).trans ?_
  (simp only [MF]; (repeat rw [if_neg (by omega)]))
 rintro rr H9 n9 h9
 obtain ⟨y, q2, g2, rfl, rfl, rfl⟩ := h9.get
 have hq2 := XR g2
 simp only [go_sem, seval, hC, e1', Zy, AV.memOK.eq_5, bys]
 apply Y; clear Y K
 simp only [go_sem, seval]
 refine .som (c := { r with token := x, done := y == 1 }) (q := q2) (by unfold rp3; simp [g1, g2]) rfl hq2.1 (by simp [Heap.put, e1, e1']) (by simp [Heap.put, e1, e1', Zy, bys]) fun k hk1 hk2 hk3 => by simp only [MF]; (repeat rw [if_neg (by omega)])
set_option maxRecDepth 100000 in
set_option maxHeartbeats 3200000 in
theorem UE {b : List UInt8} {p kr kc : Nat} {r : RepE} (hb9 : b.length ≤ 1048576) (hp : p ≤ b.length) {H : Heap} {n : Nat} (hr : kr < n) (hc : kc < n) (h12 : kr ≠ kc) (hR : H kr = some (rdO b p)) (hC : H kc = some (.arr 0 6 [repN r])) : Zx prog 92 [.loc kr 0 0 0 [], .loc kc 0 0 0 []] H n (StR torn kr kc b Zy H n (rp2 b r p)) := by
 have hb9' := hb9
 replace hb9 : b.length ≤ 1099511627776 := by omega
 have e1 : (kr = kc) = False := by simp [h12]
 have e1' : (kc = kr) = False := by simp [Ne.symm h12]
 have hkn : (n = kr) = False := by simp; omega
 have hkn' : (kr = n) = False := by simp; omega
 have hkc : (n = kc) = False := by simp; omega
 have hkc' : (kc = n) = False := by simp; omega
 have hrz : ∀ x, (ZO x).sz = 2 := fun _ => rfl
 have hrm : ∀ x, (ZO x).memOK = true := fun _ => rfl
 have hst : ∀ x, strip true (ZO x) = ZO x := fun _ => rfl
 have k1 := hR
 have k2 := hR
 have k4 := hR
 refine StR.fin hr hc h12 ?_
 refine Zc func92 rfl ntmps92 (congrArg Array.toList results92) (by simp) ?_
 simp only [go_sem]
 refine Za zs [0, 1, 4, 5] fun K Y => ?_
 simp only [go_sem, seval]
 refine Zi (args' := [.loc kr 0 0 0 []]) func93 rfl rfl rfl (YN hb9 hp hR) ?_ ?_
 rotate_left
 ·intro e9 H9 n9 h9
  obtain ⟨h1, rfl, h2, h3⟩ := h9.die
  refine .inr ⟨by unfold rp2 Ym; simp [h1], rfl, by omega, fun k hk1 hk2 hk3 => h3 k (by omega) hk2⟩
 rintro rr H9 n9 h9
 obtain ⟨cnt, q0, g0, rfl, rfl, rfl⟩ := h9.get
 have hq0 := WG g0
 apply Y; clear Y K
 refine Zj ?_
 refine Xk kc 2 (ver := 0) (e := 6) (els := [repN r]) (els' := [.agg [.int .i64 r.err, .bool r.held, .int .i64 r.value, .agg [.osl n 0 0 0, bys r.token, .bool r.done]]]) (by simp [Heap.put, e1', hC]) ⟨.agg ⟨.refl _ _, .refl _ _, .refl _ _, .agg ⟨.nilsl _, .refl _ _, .refl _ _, trivial⟩, trivial⟩, trivial⟩ ?_
 refine Zz (fun T' H' n' => ∃ (i q ver : Nat) (acc : List RowE), i ≤ cnt ∧ acc.length = i ∧ q ≤ b.length ∧ T' = tl [(0, .loc kr 0 0 0 []), (1, .loc kc 0 0 0 []), (4, .int .i64 cnt), (5, .int .i64 i)] ∧ H' kr = some (rdO b q) ∧ H' kc = some (.arr 0 6 [.agg [.int .i64 r.err, .bool r.held, .int .i64 r.value, .agg [.osl n ver 0 acc.length, bys r.token, .bool r.done]]]) ∧ H' n = some (.arr ver 2 (acc.map ZO)) ∧ (∀ k, k < n → k ≠ kr → k ≠ kc → H' k = H k) ∧ n' = n + 1 ∧ Xh X6 b (cnt - i) q acc = Ym X6 b p) (fun T' _ _ => cnt - iv (T' 5)) ?_ ?_
 ·refine ⟨0, q0, 0, [], Nat.zero_le _, rfl, by omega, rfl, by simp [Heap.put, hkn', e1], by simp [Heap.put], by simp [Heap.put, hkc], fun k hk2 hk3 hk4 => by (simp only [MF]; (repeat rw [if_neg (by omega)])), rfl, ?_⟩
  unfold Ym; rw [g0]; rfl
 intro T1 H1 n1
 rintro ⟨i, q, ver, acc, hi, hal, hq, rfl, k1, k2, k4, k3, rfl, hix⟩
 refine Za zs [0, 1, 4, 5, 6] fun K Y => ?_
 simp only [go_sem, seval, bys]
 apply Y; clear Y K
 refine Zb fun K1 hK1 => ?_
 refine Ze ?_ ?_ <;> intro hb
 ·have hlt : i < cnt := by have := of_decide_eq_true hb; omega
  refine Zd ?_
  simp only [go_sem, seval, bys]
  apply hK1
  clear hK1 K1
  refine Zb fun K2 hK2 => ?_
  refine Zj ?_
  refine Qj rfl zs [0, 1, 4, 5] [.q, .q, .q, .m, .w [0, 1, 2], .q, .w [], .q, .q, .w []] [0, 1, 2, 3, 4, 5, 6, 7, 8, 9] [0, 1, 2, 3, 4, 5, 6, 7, 8, 9] (by kernel_rfl) (fun _ _ _ _ _ h => h) fun K Y => ?_
  simp only [go_sem, seval, k2, bys]
  refine Zi (args' := [.loc kr 0 0 0 []]) func94 rfl rfl rfl (c_order_row hb9' hq (by omega) k1) ?_ ?_
  rotate_left
  ·intro e9 H9 n9 h9
   obtain ⟨h1, rfl, h2, h3⟩ := h9.die
   rw [ZY X6 b hlt, h1] at hix
   refine .inr ⟨by unfold rp2; rw [← hix]; rfl, rfl, by omega, fun k hk1 hk2 hk3 => (h3 k (by omega) hk2).trans (k3 k hk1 hk2 hk3)⟩
  rintro rr H9 n9 h9
  obtain ⟨x, q1, g1, rfl, rfl, rfl⟩ := h9.get
  have hq1 := Ls g1
  simp only [go_sem, seval, k2, k4, e1', hkn, hkc', hst, AV.memOK.eq_5, bys, List.length_map]
  repeat (first | refine peel ?_ | refine ⟨by exact ⟨by omega, .inr trivial, by omega, by omega⟩, ?_⟩)
  apply Y; clear Y K
  simp only [go_sem, seval, bys]
  apply hK2
  clear hK2 K2
  refine Zl zs [0, 1, 4, 5] fun K Y => ?_
  simp only [go_sem, seval, bys]
  apply Y; clear Y K
  simp only [go_sem, seval, e1, hkn', hkc, bys]
  refine ⟨⟨i + 1, q1, ver + 1, acc ++ [x], by omega, by simp [hal], hq1.1, by rw [w1 (by omega)], by simp [Heap.put, hkn', e1], ?_, ?_, fun k hk2 hk3 hk4 => ?_, ?_⟩, by rw [w1 (by omega)]; simp; omega⟩
  ·simp [Heap.put, bys]
  ·simp [Heap.put, hkc, List.take_of_length_le, ZO, bys]
  ·first | exact k3 k hk2 hk3 hk4 | ((repeat rw [if_neg (by omega)]); exact k3 k hk2 hk3 hk4) | (simp only [MF]; (repeat rw [if_neg (by omega)]); exact k3 k hk2 hk3 hk4)
  ·rw [← hix, ZY X6 b hlt, g1]; rfl
 have hge : i = cnt := by have := of_decide_eq_false hb; omega
 subst hge
 rw [Nat.sub_self] at hix
 have g4 : Ym X6 b p = some (acc, q) := hix.symm
 refine ZA ?_
 simp only [go_sem, seval, k1, k2, bys]
 refine .inl ⟨{ r with rows := acc }, q, _, by unfold rp2; rw [g4]; rfl, hq, rfl, rfl, ?_, k3⟩
 refine .agg (.cons (.kl trivial) (.cons (.kl trivial) (.cons (.kl trivial) (.cons (.agg (.cons (.osl (e := 2) k4 (by omega) (by simp) ?_) (.cons (.kl (ZJ _ _)) (.cons (.kl trivial) .nil)))) .nil))))
 rw [List.drop_zero, List.take_of_length_le (by simp)]
 exact YA _ (Xl ZO (fun x => LQ x n) acc)
def QQ (kc : Nat) : List (Nat × List AV) := [(91, [.loc kc 0 0 0 []]), (92, [.loc kc 0 0 0 []]), (95, [.loc kc 0 0 0 []])]
def stgR (i : Nat) (r : RepE) : AV := if i ≤ 1 then repN r else Zy r
theorem KL {b : List UInt8} (hb9 : b.length ≤ 1048576) {kc : Nat} {H : Heap} {n : Nat} (hc : kc < n) (hC : H kc = some (.arr 0 6 [repN zr])) :
   Zx prog 65 [bys b, .sl 1 ((QQ kc).map fun x => .fn (.func x.1) [] x.2)] H n (fun res H' n' => n + 2 ≤ n' ∧ (∀ k, k < n → k ≠ kc → H' k = H k) ∧ ∃ v, res = .val (.bool v) ∧ ((v = true ∧ ∃ c, UI b = some c ∧ H' kc = some (.arr 0 6 [Zy c])) ∨ (v = false ∧ UI b = none))) := by
 refine (QK hb9 (QQ kc) (by simp [QQ]) (H := H) (n := n)
   (fun i p H2 n2 => n ≤ n2 ∧ (∃ c, rpch b i = some (c, p) ∧ H2 kc = some (.arr 0 6 [stgR i c])) ∧ ∀ k, k < n → k ≠ kc → H2 k = H k)
   (fun H2 => rpch b 3 = none ∧ ∀ k, k < n → k ≠ kc → H2 k = H k) ?_ ?_ ⟨Nat.le_refl _, ⟨zr, rfl, hC⟩, fun _ _ _ => rfl⟩ ?_).mono ?_
 ·rintro i p H2 n2 H3 n3 ⟨h0, ⟨c, h1, h2⟩, h4⟩ h5 h6
  exact ⟨by omega, ⟨c, h1, (h5 kc (by omega) (by omega) (by omega)).trans h2⟩, fun k g1 g2 => (h5 k (by omega) (by omega) (by omega)).trans (h4 k g1 g2)⟩
 ·rintro H2 H3 ⟨h1, h2⟩ h3
  exact ⟨h1, fun k g1 g2 => (h3 k g1).trans (h2 k g1 g2)⟩
 ·rintro i x hx p H2 n2 hp hn hR ⟨_, ⟨c, h1, h2⟩, h4⟩
  have hi : i < 3 := by
    have := (List.getElem?_eq_some_iff.1 hx).1
    simpa [QQ] using this
  have fin : ∀ {f : Nat} {args : List AV}, Zx prog f args H2 n2 (StR torn (n + 1) kc b (stgR (i + 1)) H2 n2 (rpi i b c p)) → Zx prog f args H2 n2 (fun res H3 n3 =>
      (∃ q, res = .val (.tup []) ∧ q ≤ b.length ∧ H3 (n + 1) = some (rdO b q) ∧ H3 n = H2 n ∧ n2 ≤ n3 ∧ (n ≤ n3 ∧ (∃ c, rpch b (i + 1) = some (c, q) ∧ H3 kc = some (.arr 0 6 [stgR (i + 1) c])) ∧ ∀ k, k < n → k ≠ kc → H3 k = H k)) ∨ (res = .pan torn ∧ H3 n = H2 n ∧ n2 ≤ n3 ∧ (rpch b 3 = none ∧ ∀ k, k < n → k ≠ kc → H3 k = H k))) := fun h => h.mono fun res H3 n3 hh => by
    have hr : rpch b (i + 1) = rpi i b c p := by show (rpch b i).bind _ = _; rw [h1]; rfl
    cases hs : rpi i b c p with
    | some y =>
      rw [hs] at hh
      obtain ⟨g1, g2, g3, g4, g5, g7⟩ := hh
      exact .inl ⟨y.2, g1, g3, g4, g7 n (by omega) (by omega) (by omega), by omega, by omega, ⟨y.1, by rw [hr, hs], g5⟩, fun k e1 e2 => (g7 k (by omega) (by omega) e2).trans (h4 k e1 e2)⟩
    | none =>
      rw [hs] at hh
      obtain ⟨g1, g2, g7⟩ := hh
      exact .inr ⟨g1, g7 n (by omega) (by omega) (by omega), g2, rpch_dead (by rw [hr, hs]) hi, fun k e1 e2 => (g7 k (by omega) (by omega) e2).trans (h4 k e1 e2)⟩
  have hi' : i = 0 ∨ i = 1 ∨ i = 2 := by omega
  rcases hi' with rfl | rfl | rfl <;> (simp only [QQ, List.getElem?_cons_zero, List.getElem?_cons_succ, Option.some.injEq] at hx; subst hx)
  ·exact ⟨⟨_, func91, rfl, rfl⟩, fin (UF hb9 hp (by omega) (by omega) (by omega) hR h2)⟩
  ·exact ⟨⟨_, func92, rfl, rfl⟩, fin (UE hb9 hp (by omega) (by omega) (by omega) hR h2)⟩
  ·exact ⟨⟨_, func95, rfl, rfl⟩, fin (UD hb9 hp (by omega) (by omega) (by omega) hR h2)⟩
 ·rintro res H' n' ⟨hn, ⟨p, hp, rfl, _, ⟨c, h1, h2⟩, h4⟩ | ⟨rfl, h1, h4⟩⟩
  ·refine ⟨hn, h4, _, rfl, ?_⟩
   rw [Lt, show (QQ kc).length = 3 from rfl] at *
   rw [h1, Option.bind_some]
   by_cases e : p = b.length
   ·exact .inl ⟨by simp [e], c, by simp [e], h2⟩
   ·exact .inr ⟨by simp; omega, by simp [e]⟩
  ·exact ⟨hn, h4, _, rfl, .inr ⟨rfl, by rw [Lt, h1]; rfl⟩⟩
set_option maxRecDepth 100000 in
set_option maxHeartbeats 3200000 in
theorem XZ (b : List UInt8) {H : Heap} {n : Nat} :
   Ret prog 37 [bys b] H n (.tup [Zy (decR b).1, .int .i64 (decR b).2]) H n := by
 have hcag : ∀ c, (Zy c).isAgg = true := fun _ => rfl
 have hcmo : ∀ c, (Zy c).memOK = true := fun _ => rfl
 have hb3 : (false == false) = true := rfl
 have hb4 : (true == false) = false := rfl
 have hzsz : repZ.sz = 6 := rfl
 have k1 := hb3
 have k2 := hb3
 refine Ret.fin ?_
 refine Zc func37 rfl ntmps37 (congrArg Array.toList results37) (by simp) ?_
 simp only [go_sem]
 refine Za zs [0, 2] fun K Y => ?_
 simp only [go_sem, seval]
 apply Y; clear Y K
 refine Zb fun K1 hK1 => ?_
 refine Za zs [0, 2, 8] fun K Y => ?_
 simp only [go_sem, seval, List.length_map]
 apply Y; clear Y K
 refine Ze ?_ ?_ <;> intro hb
 ·have hd : decR b = (zr, 2) := by have h9 : 1048576 < b.length := (by simp at hb; omega); unfold decR; rw [if_pos h9]
  refine Za zs [2, 3] fun K Y => ?_
  simp only [go_sem, seval]
  apply Y; clear Y K
  refine Zf ?_
  simp only [go_sem, seval]
  refine ⟨_, rfl, fun k hk => ?_, ?_⟩
  ·(repeat rw [if_neg (by omega)])
   try exact hl1 k hk
  ·rw [hd]; first | exact .tup (.cons (Je _ _) (.cons (.kl trivial) .nil)) | exact .tup (.cons (.kl (Jp _ _)) (.cons (.kl trivial) .nil))
 have hb8 : b.length ≤ 1048576 := by simp at hb; omega
 refine Zd ?_
 simp only [go_sem, seval]
 apply hK1
 clear hK1 K1
 refine Za zs [0, 2, 4] fun K Y => ?_
 simp only [go_sem, seval, Nat.add_assoc]
 apply Y; clear Y K
 refine WN (n + 1) (ver := 0) (e := 6) (els := [repZ]) (els' := [repN zr]) (by simp [Heap.put, repZ]) ⟨repZ_wk, trivial⟩ ?_
 refine Za zs [0, 2, 4, 5] fun K Y => ?_
 simp only [go_sem, seval]
 repeat (first | refine peel ?_ | refine ⟨by exact ⟨rfl, fun x hx => by simp only [List.mem_cons, List.not_mem_nil, or_false] at hx; rcases hx with rfl | rfl | rfl <;> exact ⟨rfl, rfl⟩⟩, ?_⟩)
 have hcall := fun Hc h1 => KL (b := b) (H := Hc) (n := n + 2) (kc := n + 1) hb8 (by omega) h1
 refine Zi (args' := [bys b, .sl 1 ((QQ (n + 1)).map fun x => .fn (.func x.1) [] x.2)]) func65 rfl rfl rfl (hcall _ ?_) ?_ ?_
 ·simp [Heap.put]
 rotate_left
 ·rintro e9 H9 n9 ⟨_, _, v, h, _⟩; cases h
 rintro rr H1 n1 ⟨hn1, hlow, v, h, hcase⟩
 cases h
 have k1 : H1 n = some (.arr 0 6 [repZ]) := (hlow n (by omega) (by omega)).trans (by simp [Heap.put, repZ])
 have hl1 : ∀ k, k < n → H1 k = H k := fun k hk => (hlow k (by omega) (by omega)).trans (by simp only [MF]; (repeat rw [if_neg (by omega)]))
 clear hlow
 simp only [go_sem, seval]
 apply Y; clear Y K
 refine Zb fun K2 hK2 => ?_
 rcases hcase with ⟨rfl, r, hcm, k2⟩ | ⟨rfl, hcm⟩
 ·obtain ⟨hr1, hr2, hr3⟩ := rdRep_le hcm
  refine Za zs [2, 4, 29] fun K Y => ?_
  simp only [go_sem, seval, k2, Xv, hcag, Bool.not_true, hb3, true_implies]
  first | refine Zv func85 rfl rfl rfl (fun hg => (Ua r (by omega) (fun x hx => by have := hr2 x hx; omega) _ _)) ?_ | ((refine W9 fun r9 => ?_; try simp only [go_sem, seval, k1, k2, bys]); refine Zv (r := .bool false) func85 rfl rfl rfl (fun h => by first | (nomatch h) | (simp at h)) ?_)
  simp only [go_sem, seval, k2, Xv, hcag, Bool.not_true]
  repeat refine peel ?_
  simp only [go_sem, seval]
  first | refine Zv func86 rfl rfl rfl (fun hg => (VL r (by simpa using hg) (fun x hx => by have := hr2 x hx; omega) (by omega) _ _)) ?_ | ((refine W9 fun r9 => ?_; try simp only [go_sem, seval, k1, k2, bys]); refine Zv (r := .sl 1 []) func86 rfl rfl rfl (fun h => by first | (nomatch h) | (simp at h)) ?_)
  simp only [go_sem, seval, bys]
  refine Zv func77 rfl rfl rfl (fun hg => (Yk (repB r) b _ _)) ?_
  simp only [go_sem, seval, true_implies]
  repeat refine peel ?_
  apply Y; clear Y K
  refine Ze ?_ ?_ <;> intro hb
  ·have hd : decR b = (zr, 147) := by have hn : ¬(YU r = true ∧ repB r = b) := (by rintro ⟨e1, e2⟩; simp [e1, e2] at hb); unfold decR; rw [if_neg (by omega), hcm]; simp only []; rw [if_neg hn]
   refine Za zs [2, 3] fun K Y => ?_
   simp only [go_sem, seval, k1]
   repeat refine peel ?_
   apply Y; clear Y K
   refine Zf ?_
   simp only [go_sem, seval]
   refine ⟨_, rfl, fun k hk => ?_, ?_⟩
   ·(repeat rw [if_neg (by omega)])
    try exact hl1 k hk
   ·rw [hd]; first | exact .tup (.cons (Je _ _) (.cons (.kl trivial) .nil)) | exact .tup (.cons (.kl (Jp _ _)) (.cons (.kl trivial) .nil))
  have hd : decR b = (r, 0) := by have hn : YU r = true ∧ repB r = b := (by by_cases e1 : YU r = true <;> simp_all); unfold decR; rw [if_neg (by omega), hcm]; simp only []; rw [if_pos hn]
  refine Zd ?_
  simp only [go_sem, seval]
  apply hK2
  clear hK2 K2
  refine Za zs [2, 3] fun K Y => ?_
  simp only [go_sem, seval, k1, k2, Xv, hcag, hcmo, hzsz]
  apply Y; clear Y K
  refine Zf ?_
  simp only [go_sem, seval]
  refine ⟨⟨rfl, by rw [Xv]⟩, _, rfl, fun k hk => ?_, ?_⟩
  ·(repeat rw [if_neg (by omega)])
   try exact hl1 k hk
  ·rw [hd]; first | exact .tup (.cons (Je _ _) (.cons (.kl trivial) .nil)) | exact .tup (.cons (.kl (Jp _ _)) (.cons (.kl trivial) .nil))
 ·skip
  refine Za zs [2, 4, 29] fun K Y => ?_
  simp only [go_sem, seval, Bool.not_false, hb4]
  first | refine Zv func85 rfl rfl rfl (fun hg => (Ua r (by omega) (fun x hx => by have := hr2 x hx; omega) _ _)) ?_ | ((refine W9 fun r9 => ?_; try simp only [go_sem, seval, k1, k2, bys]); refine Zv (r := .bool false) func85 rfl rfl rfl (fun h => by first | (nomatch h) | (simp at h)) ?_)
  simp only [go_sem, seval, Bool.not_false]
  repeat refine peel ?_
  simp only [go_sem, seval, hb4]
  first | refine Zv func86 rfl rfl rfl (fun hg => (VL r (by simpa using hg) (fun x hx => by have := hr2 x hx; omega) (by omega) _ _)) ?_ | ((refine W9 fun r9 => ?_; try simp only [go_sem, seval, k1, k2, bys]); refine Zv (r := .sl 1 []) func86 rfl rfl rfl (fun h => by first | (nomatch h) | (simp at h)) ?_)
  simp only [go_sem, seval, Bool.not_false]
  (refine Zv (r := .bool false) func77 rfl rfl rfl (fun h => by first | (nomatch h) | (simp at h)) ?_)
  simp only [go_sem, seval, Bool.not_false]
  repeat refine peel ?_
  apply Y; clear Y K
  refine Ze ?_ ?_ <;> intro hb
  ·have hd : decR b = (zr, 147) := by unfold decR; rw [if_neg (by omega), hcm]
   refine Za zs [2, 3] fun K Y => ?_
   simp only [go_sem, seval, k1]
   repeat refine peel ?_
   apply Y; clear Y K
   refine Zf ?_
   simp only [go_sem, seval]
   refine ⟨_, rfl, fun k hk => ?_, ?_⟩
   ·(repeat rw [if_neg (by omega)])
    try exact hl1 k hk
   ·rw [hd]; first | exact .tup (.cons (Je _ _) (.cons (.kl trivial) .nil)) | exact .tup (.cons (.kl (Jp _ _)) (.cons (.kl trivial) .nil))
  exact absurd hb (by simp) --dead
theorem Yo (x lo hi : Int) (H : Heap) (n : Nat) : Ret prog 57 [.int .i64 x, .int .i64 lo, .int .i64 hi] H n (.bool (bout x lo hi)) H n := by
 refine Zc func57 rfl ntmps57 (congrArg Array.toList results57) (by simp) ?_
 simp only [go_sem]
 refine ZE zs [0, 1, 2] ?_
 refine ZE zs [6] ?_
 refine Zf ?_
 simp only [go_sem, seval]
 simp [bout]
theorem c_ref14_zero (q : QryE) (H : Heap) (n : Nat) : Ret prog 62 [Zq q] H n (.bool (decide (q = zq))) H n := by
 refine Ret.fin ?_
 refine Zc func62 rfl ntmps62 (congrArg Array.toList results62) (by simp) ?_
 simp only [go_sem]
 refine Za zs [1] fun K Y => ?_
 simp only [go_sem, seval, Zq, Zr]
 apply Y; clear Y K
 refine Za zs [1, 3] fun K Y => ?_
 simp only [go_sem, seval, List.length_map]
 repeat refine peel ?_
 apply Y; clear Y K
 refine Za zs [2] fun K Y => ?_
 simp only [go_sem, seval]
 repeat refine peel ?_
 apply Y; clear Y K
 refine Zf ?_
 simp only [go_sem, seval]
 refine ⟨_, rfl, fun k hk => ?_, Frz.eq ?_ trivial⟩
 ·(repeat rw [if_neg (by omega)])
 ·congr 1; rw [Bool.eq_iff_iff]; cases q; simp [zq, beq_iff_eq]; constructor <;> intro h <;> simp_all
theorem Mj (c : CmdE) (H : Heap) (n : Nat) : Ret prog 58 [Zh c] H n (.bool (!cb3 c)) H n := by
 have hsz := Yj c.q
 refine Ret.fin ?_
 refine Zc func58 rfl ntmps58 (congrArg Array.toList results58) (by simp) ?_
 simp only [go_sem]
 refine Za zs [1] fun K Y => ?_
 simp only [go_sem, seval, Zh, hsz]
 apply Y; clear Y K
 refine Za zs [1, 3] fun K Y => ?_
 simp only [go_sem, seval]
 apply Y; clear Y K
 refine Za zs [1, 3, 4] fun K Y => ?_
 simp only [go_sem, seval]
 apply Y; clear Y K
 refine Zb fun K1 hK1 => ?_
 refine Za zs [1, 3, 4, 7] fun K Y => ?_
 simp only [go_sem, seval]
 apply Y; clear Y K
 refine Ze ?_ ?_ <;> intro hb
 ·refine Zl zs [1, 3, 4] fun K Y => ?_
  simp only [go_sem, seval]
  apply Y; clear Y K
  simp only [go_sem, seval]
  apply hK1
  clear hK1 K1
  refine Zb fun K2 hK2 => ?_
  refine Za zs [1, 3, 4, 10] fun K Y => ?_
  simp only [go_sem, seval]
  apply Y; clear Y K
  refine Ze ?_ ?_ <;> intro hb
  ·refine Zl zs [1, 3, 4] fun K Y => ?_
   simp only [go_sem, seval]
   apply Y; clear Y K
   simp only [go_sem, seval]
   apply hK2
   clear hK2 K2
   refine Za zs [2] fun K Y => ?_
   simp only [go_sem, seval]
   refine Zg func57 rfl rfl rfl ((Yo _ _ _ _ _)) ?_
   simp only [go_sem, seval]
   apply Y; clear Y K
   refine Zf ?_
   simp only [go_sem, seval]
   refine ⟨_, rfl, fun k hk => ?_, Frz.eq ?_ trivial⟩
   ·(repeat rw [if_neg (by omega)])
   ·congr 1; simp [cb3, ZQ, YQ]; split <;> split <;> first | rfl | (exfalso; simp at *; omega)
  refine Zd ?_
  simp only [go_sem, seval]
  apply hK2
  clear hK2 K2
  refine Za zs [2] fun K Y => ?_
  simp only [go_sem, seval]
  refine Zg func57 rfl rfl rfl ((Yo _ _ _ _ _)) ?_
  simp only [go_sem, seval]
  apply Y; clear Y K
  refine Zf ?_
  simp only [go_sem, seval]
  refine ⟨_, rfl, fun k hk => ?_, Frz.eq ?_ trivial⟩
  ·(repeat rw [if_neg (by omega)])
  ·congr 1; simp [cb3, ZQ, YQ]; split <;> split <;> first | rfl | (exfalso; simp at *; omega)
 refine Zd ?_
 simp only [go_sem, seval]
 apply hK1
 clear hK1 K1
 refine Zb fun K3 hK3 => ?_
 refine Za zs [1, 3, 4, 10] fun K Y => ?_
 simp only [go_sem, seval]
 apply Y; clear Y K
 refine Ze ?_ ?_ <;> intro hb
 ·refine Zl zs [1, 3, 4] fun K Y => ?_
  simp only [go_sem, seval]
  apply Y; clear Y K
  simp only [go_sem, seval]
  apply hK3
  clear hK3 K3
  refine Za zs [2] fun K Y => ?_
  simp only [go_sem, seval]
  refine Zg func57 rfl rfl rfl ((Yo _ _ _ _ _)) ?_
  simp only [go_sem, seval]
  apply Y; clear Y K
  refine Zf ?_
  simp only [go_sem, seval]
  refine ⟨_, rfl, fun k hk => ?_, Frz.eq ?_ trivial⟩
  ·(repeat rw [if_neg (by omega)])
  ·congr 1; simp [cb3, ZQ, YQ]; split <;> split <;> first | rfl | (exfalso; simp at *; omega)
 refine Zd ?_
 simp only [go_sem, seval]
 apply hK3
 clear hK3 K3
 refine Za zs [2] fun K Y => ?_
 simp only [go_sem, seval]
 refine Zg func57 rfl rfl rfl ((Yo _ _ _ _ _)) ?_
 simp only [go_sem, seval]
 apply Y; clear Y K
 refine Zf ?_
 simp only [go_sem, seval]
 refine ⟨_, rfl, fun k hk => ?_, Frz.eq ?_ trivial⟩
 ·(repeat rw [if_neg (by omega)])
 ·congr 1; simp [cb3, ZQ, YQ]; split <;> split <;> first | rfl | (exfalso; simp at *; omega)
theorem Mk (c : CmdE) (hk1 : 1 ≤ c.kind) (H : Heap) (n : Nat) : Ret prog 60 [Zh c] H n (.bool (!cb9 c)) H n := by
 have hsz := Yj c.q
 refine Ret.fin ?_
 refine Zc func60 rfl ntmps60 (congrArg Array.toList results60) (by simp) ?_
 simp only [go_sem]
 refine Za zs [1] fun K Y => ?_
 simp only [go_sem, seval, Zh, hsz]
 apply Y; clear Y K
 refine Zb fun K1 hK1 => ?_
 refine Za zs [1, 4] fun K Y => ?_
 simp only [go_sem, seval]
 apply Y; clear Y K
 refine Zj ?_
 refine Za zs [1, 4, 5] fun K Y => ?_
 simp only [go_sem, seval]
 apply Y; clear Y K
 refine Ze ?_ ?_ <;> intro hb
 ·refine Za zs [2] fun K Y => ?_
  simp only [go_sem, seval]
  refine Zg func57 rfl rfl rfl ((Yo _ _ _ _ _)) ?_
  simp only [go_sem, seval]
  apply Y; clear Y K
  refine Zf ?_
  simp only [go_sem, seval]
  refine ⟨_, rfl, fun k hk => ?_, Frz.eq ?_ trivial⟩
  ·(repeat rw [if_neg (by omega)])
  ·congr 1; have h0 : c.kind ≠ 0 := (by omega); by_cases h5 : c.kind = 5 <;> by_cases h6 : c.kind = 6 <;> simp_all [cb9, Yn, bne]
 refine Za zs [1, 11] fun K Y => ?_
 simp only [go_sem, seval]
 apply Y; clear Y K
 refine Ze ?_ ?_ <;> intro hb
 ·refine Za zs [2] fun K Y => ?_
  simp only [go_sem, seval]
  refine Zg func57 rfl rfl rfl ((Yo _ _ _ _ _)) ?_
  simp only [go_sem, seval]
  apply Y; clear Y K
  refine Zf ?_
  simp only [go_sem, seval]
  refine ⟨_, rfl, fun k hk => ?_, Frz.eq ?_ trivial⟩
  ·(repeat rw [if_neg (by omega)])
  ·congr 1; have h0 : c.kind ≠ 0 := (by omega); by_cases h5 : c.kind = 5 <;> by_cases h6 : c.kind = 6 <;> simp_all [cb9, Yn, bne]
 refine Zd ?_
 simp only [go_sem, seval]
 apply hK1
 clear hK1 K1
 refine Za zs [2] fun K Y => ?_
 simp only [go_sem, seval]
 apply Y; clear Y K
 refine Zf ?_
 simp only [go_sem, seval]
 refine ⟨_, rfl, fun k hk => ?_, Frz.eq ?_ trivial⟩
 ·(repeat rw [if_neg (by omega)])
 ·congr 1; have h0 : c.kind ≠ 0 := (by omega); by_cases h5 : c.kind = 5 <;> by_cases h6 : c.kind = 6 <;> simp_all [cb9, Yn, bne]
theorem c_ref14_cond (s : List Fml) (hs : s.length ≤ 2000000) (x : YF) (H : Heap) (n : Nat) : Ret prog 121 [Zt s, Zu x] H n (.bool (XB s.length x)) H n := by
 have hw : IntKind.i64.wrap ((s.length : Int) - 1) = (s.length : Int) - 1 := w64 (by omega) (by omega)
 refine Ret.fin ?_
 refine Zc func121 rfl ntmps121 (congrArg Array.toList results121) (by simp) ?_
 simp only [go_sem]
 refine Za zs [2, 3] fun K Y => ?_
 simp only [go_sem, seval, Zu]
 apply Y; clear Y K
 refine Zb fun K1 hK1 => ?_
 refine Za zs [3, 28] fun K Y => ?_
 simp only [go_sem, seval]
 refine Zg func57 rfl rfl rfl ((Yo x.kind 1 6 _ _)) ?_
 simp only [go_sem, seval, List.length_map, hw]
 refine Zv func57 rfl rfl rfl (fun _ => (Yo x.fam 0 ((s.length : Int) - 1) _ _)) ?_
 simp only [go_sem, seval, List.length_map]
 repeat refine peel ?_
 apply Y; clear Y K
 refine Ze ?_ ?_ <;> intro hb
 ·refine Za zs [4] fun K Y => ?_
  simp only [go_sem, seval]
  apply Y; clear Y K
  refine Zf ?_
  simp only [go_sem, seval]
  refine ⟨_, rfl, fun k hk => ?_, Frz.eq ?_ trivial⟩
  ·(repeat rw [if_neg (by omega)])
  ·congr 1; unfold XB; rw [Bool.eq_iff_iff]; clear hw; by_cases hv : x.value.length = 0 <;> simp [bout, -List.length_eq_zero_iff, hv] at * <;> omega
 refine Zd ?_
 simp only [go_sem, seval]
 apply hK1
 clear hK1 K1
 refine Za zs [4] fun K Y => ?_
 simp only [go_sem, seval, List.length_map]
 repeat refine peel ?_
 apply Y; clear Y K
 refine Zf ?_
 simp only [go_sem, seval]
 refine ⟨_, rfl, fun k hk => ?_, Frz.eq ?_ trivial⟩
 ·(repeat rw [if_neg (by omega)])
 ·congr 1; unfold XB; rw [Bool.eq_iff_iff]; clear hw; by_cases hv : x.value.length = 0 <;> simp [bout, -List.length_eq_zero_iff, hv] at * <;> omega
theorem c_ref14_op (s : List Fml) (hs : s.length ≤ 2000000) (x : OpE) (H : Heap) (n : Nat) : Ret prog 122 [Zt s, opAV x] H n (.bool (opOK s.length x)) H n := by
 have hw : IntKind.i64.wrap ((s.length : Int) - 1) = (s.length : Int) - 1 := w64 (by omega) (by omega)
 refine Ret.fin ?_
 refine Zc func122 rfl ntmps122 (congrArg Array.toList results122) (by simp) ?_
 simp only [go_sem]
 refine Za zs [2, 3] fun K Y => ?_
 simp only [go_sem, seval, opAV]
 apply Y; clear Y K
 refine Zb fun K1 hK1 => ?_
 refine Za zs [3, 33] fun K Y => ?_
 simp only [go_sem, seval]
 refine Zg func57 rfl rfl rfl ((Yo x.kind 1 5 _ _)) ?_
 simp only [go_sem, seval, List.length_map, hw]
 refine Zv func57 rfl rfl rfl (fun _ => (Yo x.fam 0 ((s.length : Int) - 1) _ _)) ?_
 simp only [go_sem, seval, List.length_map]
 repeat refine peel ?_
 refine Zv func57 rfl rfl rfl (fun _ => (Yo x.ts 0 1099511627776 _ _)) ?_
 simp only [go_sem, seval]
 repeat refine peel ?_
 apply Y; clear Y K
 refine Ze ?_ ?_ <;> intro hb
 ·refine Za zs [4] fun K Y => ?_
  simp only [go_sem, seval]
  apply Y; clear Y K
  refine Zf ?_
  simp only [go_sem, seval]
  refine ⟨_, rfl, fun k hk => ?_, Frz.eq ?_ trivial⟩
  ·(repeat rw [if_neg (by omega)])
  ·congr 1; unfold opOK; clear hw; generalize bout x.kind 1 5 = b1 at *; generalize bout x.fam 0 ((s.length : Int) - 1) = b2 at *; generalize bout x.ts 0 1099511627776 = b3 at *
   grind
 refine Zd ?_
 simp only [go_sem, seval]
 apply hK1
 clear hK1 K1
 refine Zb fun K2 hK2 => ?_
 refine Za zs [3, 53] fun K Y => ?_
 simp only [go_sem, seval, List.length_map]
 repeat (first | refine peel ?_ | refine ⟨by (intro _ h; rw [h]; rfl), ?_⟩)
 apply Y; clear Y K
 refine Ze ?_ ?_ <;> intro hb
 ·refine Za zs [4] fun K Y => ?_
  simp only [go_sem, seval]
  apply Y; clear Y K
  refine Zf ?_
  simp only [go_sem, seval]
  refine ⟨_, rfl, fun k hk => ?_, Frz.eq ?_ trivial⟩
  ·(repeat rw [if_neg (by omega)])
  ·congr 1; unfold opOK; clear hw; generalize bout x.kind 1 5 = b1 at *; generalize bout x.fam 0 ((s.length : Int) - 1) = b2 at *; generalize bout x.ts 0 1099511627776 = b3 at *
   grind
 refine Zd ?_
 simp only [go_sem, seval]
 apply hK2
 clear hK2 K2
 refine Zb fun K3 hK3 => ?_
 refine Za zs [3, 56] fun K Y => ?_
 simp only [go_sem, seval]
 apply Y; clear Y K
 refine Ze ?_ ?_ <;> intro hb
 ·refine Za zs [4] fun K Y => ?_
  simp only [go_sem, seval]
  apply Y; clear Y K
  refine Zf ?_
  simp only [go_sem, seval]
  refine ⟨_, rfl, fun k hk => ?_, Frz.eq ?_ trivial⟩
  ·(repeat rw [if_neg (by omega)])
  ·congr 1; unfold opOK; clear hw; generalize bout x.kind 1 5 = b1 at *; generalize bout x.fam 0 ((s.length : Int) - 1) = b2 at *; generalize bout x.ts 0 1099511627776 = b3 at *
   grind
 refine Zd ?_
 simp only [go_sem, seval]
 apply hK3
 clear hK3 K3
 refine Za zs [4] fun K Y => ?_
 simp only [go_sem, seval]
 apply Y; clear Y K
 refine Zf ?_
 simp only [go_sem, seval]
 refine ⟨_, rfl, fun k hk => ?_, Frz.eq ?_ trivial⟩
 ·(repeat rw [if_neg (by omega)])
 ·congr 1; unfold opOK; clear hw; generalize bout x.kind 1 5 = b1 at *; generalize bout x.fam 0 ((s.length : Int) - 1) = b2 at *; generalize bout x.ts 0 1099511627776 = b3 at *
  grind
end Go.Proofs.YtifnhpmeoogedaaGreatDoor