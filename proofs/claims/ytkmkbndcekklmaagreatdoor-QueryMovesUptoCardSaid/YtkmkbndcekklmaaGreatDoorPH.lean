/- Own layer: walks through the words of the document's reader of conditions: signs, strings. Of the program; no condition. -/
import Derived.Test.YtkmkbndcekklmaaGreatDoorPG
import Derived.Test.YtkmkbndcekklmaaGreatDoorPF
import Derived.Test.YtkmkbndcekklmaaGreatDoorPE
set_option linter.unusedSimpArgs false
set_option linter.unusedVariables false
set_option maxRecDepth 10000
namespace Go.Proofs.YtkmkbndcekklmaaGreatDoor
open Go Go.Sx Go.Rt Go.Proofs Tryz
theorem Xd (b : List UInt8) : List.take b.length (List.map Zd b) = List.map Zd b := List.take_of_length_le osi
theorem hex16 {a b : Nat} (ha : a < 16) (hb : b < 16) : IntKind.u8.wrap (IntKind.i64.wrap (IntKind.i64.wrap (16 * (a : Int)) + (b : Int))) = ((UInt8.ofNat (16 * a + b)).toNat : Int) := by
 have key : ∀ (x y : Fin 16), IntKind.u8.wrap (IntKind.i64.wrap (IntKind.i64.wrap (16 * ((x.1 : Nat) : Int)) + ((y.1 : Nat) : Int))) = ((UInt8.ofNat (16 * x.1 + y.1)).toNat : Int) := by decide +kernel
 exact key ⟨a, ha⟩ ⟨b, hb⟩
theorem NH30.eqs {P Q : Prop} (g : Imp P Q := by (try simp only [go_sem, seval, e0, e1, Int.toNat_natCast, ← hc, ← hd]); exact Pm) : Imp P Q := g
theorem NH30.sd {P : Prop} (g : P := by first | (intro hx9; have h9 : p + 1 < t.length := (by simp at hx9; omega); exact ⟨om, om⟩) | (intros; simp_all; done) | fail) : P := g
open NH30 NZ in
theorem c_ref13_sign (t : List UInt8) (p : Nat) (ht : t.length ≤ 512) (hp : p < t.length) (H : Heap) (n : Nat) : Ret prog 150 [.str t, .int .i64 p] H n (.int .i64 ((p + Qp t p : Nat) : Int)) H n := by
 have e0 : IntKind.i64.wrap ((p : Int) + 1) = ((p + 1 : Nat) : Int) := by rw [w64 om om]; omega
 have e1 : IntKind.i64.wrap ((p : Int) + 2) = ((p + 2 : Nat) : Int) := by rw [w64 om om]; omega
 rw [signL_eq hp]
 obtain ⟨c, hc⟩ : ∃ c, c = t.getD p 0 := ⟨_, rfl⟩
 obtain ⟨d, hd⟩ : ∃ d, d = t.getD (p + 1) 0 := ⟨_, rfl⟩
 have hcl := c.toNat_lt
 have hdl := d.toNat_lt
 rw [← hc, ← hd]
 refine fw func150 ntmps150 results150 ?_
 refine kb1 ?_
 refine rg zs [0, 1, 5] ?_
 refine Za fun K1 hK1 => ?_
 refine rg zs [1, 5, 20] ?_
 refine kbM ?_
 refine Za fun K2 hK2 => ?_
 refine rg zs [1, 5, 20, 21] ?_
 refine Zb ?_ ?_ <;> intro hb
 ·refine kaQ ?_
  refine Zb ?_ ?_ <;> intro hb
  ·refine Za fun K3 hK3 => ?_
   refine rg zs [1, 24] ?_
   refine Zb ?_ ?_ <;> intro hb
   ·exact kaa
   refine kba ?_
   exact kaa
  refine rg zs [1, 5, 20, 29] ?_
  refine Zb ?_ ?_ <;> intro hb
  ·refine Za fun K4 hK4 => ?_
   refine rg zs [1, 31] ?_
   refine Zb ?_ ?_ <;> intro hb
   ·exact kaa
   refine kb3 ?_
   exact kaa
  refine Za fun K5 hK5 => ?_
  refine rg zs [1, 20, 35] ?_
  refine Zb ?_ ?_ <;> intro hb
  ·refine ak ?_
   apply hK5
   refine Zb ?_ ?_ <;> intro hb
   ·exact kaa
   refine kay ?_
   exact kaa
  refine rg zs [1, 20, 35] ?_
  refine Zb ?_ ?_ <;> intro hb
  ·refine ak ?_
   apply hK5
   refine Zb ?_ ?_ <;> intro hb
   ·exact kaa
   refine kay ?_
   exact kaa
  refine rg zs [1, 20, 35] ?_
  refine Zb ?_ ?_ <;> intro hb
  ·refine ak ?_
   apply hK5
   refine Zb ?_ ?_ <;> intro hb
   ·exact kaa
   refine kay ?_
   exact kaa
  refine rg1 zs [1, 35] ?_
  apply hK5
  refine Zb ?_ ?_ <;> intro hb
  ·exact kaa
  refine kay ?_
  exact kaa
 refine rg1 zs [1, 5, 20, 21] ?_
 apply hK2
 refine Zb ?_ ?_ <;> intro hb
 ·refine Za fun K6 hK6 => ?_
  refine rg zs [1, 24] ?_
  refine Zb ?_ ?_ <;> intro hb
  ·exact kaa
  refine ak ?_
  apply hK6
  exact kaa
 refine rg zs [1, 5, 20, 29] ?_
 refine Zb ?_ ?_ <;> intro hb
 ·refine Za fun K7 hK7 => ?_
  refine rg zs [1, 31] ?_
  refine Zb ?_ ?_ <;> intro hb
  ·exact kaa
  refine ak ?_
  apply hK7
  exact kaa
 refine Za fun K8 hK8 => ?_
 refine rg zs [1, 20, 35] ?_
 refine Zb ?_ ?_ <;> intro hb
 ·refine ak ?_
  apply hK8
  refine Zb ?_ ?_ <;> intro hb
  ·exact kaa
  refine kay ?_
  exact kaa
 refine rg zs [1, 20, 35] ?_
 refine Zb ?_ ?_ <;> intro hb
 ·refine ak ?_
  apply hK8
  refine Zb ?_ ?_ <;> intro hb
  ·exact kaa
  refine kay ?_
  exact kaa
 refine rg zs [1, 20, 35] ?_
 refine Zb ?_ ?_ <;> intro hb
 ·refine ak ?_
  apply hK8
  refine Zb ?_ ?_ <;> intro hb
  ·exact kaa
  refine kay ?_
  exact kaa
 refine rg1 zs [1, 35] ?_
 apply hK8
 refine Zb ?_ ?_ <;> intro hb
 ·exact kaa
 refine kay ?_
 exact kaa
theorem NH31.eqs {P Q : Prop} (g : Imp P Q := by (try simp only [go_sem, seval, e0, hS, hx, List.length_map, Int.toNat_natCast, Xd]); exact Pm) : Imp P Q := g
theorem NH31.sd {P : Prop} (g : P := by first | (intros; simp_all; done) | fail) : P := g
set_option maxHeartbeats 1600000 in
open NH31 NZ in
theorem NQ (t : List UInt8) (p : Nat) (ht : t.length ≤ 512) (hp : p < t.length) (H : Heap) (n : Nat) : Ret prog 149 [.str t, .int .i64 p] H n (match strF t p with | some x => .tup [.str x.1.str, .int .i64 x.2, .bool true] | none => .tup [.str [], .int .i64 0, .bool false]) H n := by
 obtain ⟨r, hr⟩ : ∃ r, r = (match strF t p with | some x => .tup [.str x.1.str, .int .i64 x.2, .bool true] | none => .tup [.str [], .int .i64 0, .bool false] : AV) := ⟨_, rfl⟩
 rw [← hr]
 unfold strF at hr
 generalize hG : strG (t.length + 1) (t.drop (p + 1)) (p + 1) [] [34] = G at hr
 have e0 : IntKind.i64.wrap ((p : Int) + 1) = ((p + 1 : Nat) : Int) := by rw [w64 om om]; omega
 have hS := hp
 have hx := hp
 refine Ret.fin ?_
 refine fw func149 ntmps149 results149 ?_
 refine kb1 ?_
 refine rg zs [0, 1, 7] ?_
 refine Za fun K1 hK1 => ?_
 refine rg zs [0, 7, 8] ?_
 refine kbM ?_
 refine Z8 7 1 rfl ?_
 refine Yp [0, 7, 8] ?_
 simp only [go_sem, seval]
 refine Zp (fun T' H' n' => ∃ (i f : Nat) (s x : List UInt8) (v : Nat), p < i ∧ i ≤ t.length ∧ t.length + p + 2 ≤ f + i ∧ strG f (t.drop i) i s x = G ∧ s.length ≤ i ∧ T' = tl [(0, .str t), (7, .osl n v 0 s.length), (8, .int .i64 i)] ∧ H' n = some (.arr v 1 (s.map Zd)) ∧ (∀ k, k < n → H' k = H k) ∧ n' = n + 1) (fun T' _ _ => t.length - iv (T' 8)) ?_ ?_
 ·exact ⟨p + 1, t.length + 1, [], [34], 0, om, om, om, hG, osi, rfl, Pk _ _ _, fun k hk => Pi _ _ om, rfl⟩
 rintro T1 H1 n1 ⟨i, f, s1, x1, v, hpi, hit, hfi, hgi, hsl, rfl, hS, hlow, rfl⟩
 obtain ⟨f, rfl⟩ : ∃ g, f = g + 1 := ⟨f - 1, om⟩
 refine Za fun K2 hK2 => ?_
 refine rg zs [0, 7, 8, 15] ?_
 refine Zb ?_ ?_ <;> intro hb
 ·have hlt : i < t.length := ott
  have e1 : IntKind.i64.wrap ((i : Int) + 1) = ((i + 1 : Nat) : Int) := w1 om
  have e2 : IntKind.i64.wrap ((i : Int) + 2) = ((i + 2 : Nat) : Int) := by rw [w64 om om]; omega
  obtain ⟨c, hc⟩ : ∃ c, c = t.getD i 0 := ⟨_, rfl⟩
  obtain ⟨d, hd⟩ : ∃ d, d = t.getD (i + 1) 0 := ⟨_, rfl⟩
  obtain ⟨e, he⟩ : ∃ e, e = t.getD (i + 2) 0 := ⟨_, rfl⟩
  have hcl := c.toNat_lt
  have hdl := d.toNat_lt
  refine kaQ ?_
  refine bk fun K3 hK3 => ?_
  refine Zf zs [0, 7, 8, 9] fun K V => ?_
  try simp only [go_sem, seval, e0, hS, hx, List.length_map, Int.toNat_natCast, Xd, e1, ← hc]
  repeat (first | (refine And.intro ?_ ?_; · first | exact ⟨om, om⟩) | refine peel ?_)
  refine kas ?_
  refine kbM ?_
  refine rg zs [0, 7, 8, 9, 21] ?_
  refine Zb ?_ ?_ <;> intro hb
  ·have k0 : (t.getD i 0).toNat = 34 := by rw [← hc]; have h9 := hb; simp at h9; omega
   rw [← hgi, MF hlt k0] at hr
   refine Zf zs [4, 5, 6] fun K V => ?_
   try simp only [go_sem, seval, e0, hS, hx, List.length_map, Int.toNat_natCast, Xd, e1, e2, Zq]
   repeat (first | (refine And.intro ?_ ?_; · first | exact ⟨Nat.le_refl _, Yl _⟩) | refine peel ?_)
   refine kas ?_
   exact kaZ
  have k0 : ¬ (t.getD i 0).toNat = 34 := by rw [← hc]; have h9 := hb; simp at h9; omega
  refine rg zs [0, 7, 8, 9, 28] ?_
  refine Zb ?_ ?_ <;> intro hb
  ·have k1 : (t.getD i 0).toNat < 32 ∨ 126 < (t.getD i 0).toNat := by rw [← hc]; have h9 := hb; simp at h9; omega
   rw [← hgi, strG_bad hlt k0 k1] at hr
   refine rg zs [4, 5, 6] ?_
   exact kaZ
  have k1 : ¬ ((t.getD i 0).toNat < 32 ∨ 126 < (t.getD i 0).toNat) := by rw [← hc]; have h9 := hb; simp at h9; omega
  refine rg zs [0, 7, 8, 9, 35] ?_
  refine Zb ?_ ?_ <;> intro hb
  ·have k2 : ¬ (t.getD i 0).toNat = 92 := by rw [← hc]; have h9 := hb; simp at h9; omega
   have hst := MG (f := f) (s := s1) (x := x1) hlt k0 k1 k2 ▸ hgi
   refine ZG zs [0, 7, 8] fun K V => ?_
   try simp only [go_sem, seval, e0, hS, hx, List.length_map, Int.toNat_natCast, Xd, e1, e2, ← hc]
   repeat (first | (refine And.intro ?_ ?_; · first | exact ⟨rfl, by simp [AV.sz, AV.memOK]⟩ | exact ⟨om, .inr trivial, om, om⟩) | refine peel ?_)
   refine kas ?_
   refine ns ?_
   apply hK3
   refine ZG zs [0, 7, 8] fun K V => ?_
   refine ka4 ?_
   refine kad ?_
   refine ns ?_
   refine ⟨?_, by first | omega | (rw [w1 om]; simp; omega)⟩
   exact ⟨i + 1, f, _, _, v + 1, om, om, om, hst, oz, by rw [List.length_append]; rfl, by rw [List.map_append, hc]; rfl, fun k hk => by rw [if_neg om]; exact hlow k hk⟩
  have k2 : (t.getD i 0).toNat = 92 := by rw [← hc]; have h9 := hb; simp at h9; omega
  refine Zf zs [0, 7, 8, 42] fun K V => ?_
  try simp only [go_sem, seval, e0, hS, hx, List.length_map, Int.toNat_natCast, Xd, e1, e2, ← hd]
  repeat (first | (refine And.intro ?_ ?_; · first | (intro hx9; have h9 : i + 1 < t.length := (by simp at hx9; omega); exact ⟨om, om⟩) | (intros; simp_all; done)) | refine peel ?_)
  refine kas ?_
  refine Zb ?_ ?_ <;> intro hb
  ·have k3 : i + 1 < t.length := by rcases Nat.lt_or_ge (i + 1) t.length with q | q; exact q; (rw [decide_eq_false om] at hb; cases hb)
   have k4 : (t.getD (i + 1) 0).toNat = 34 ∨ (t.getD (i + 1) 0).toNat = 92 := by have h9 := hb; rw [decide_eq_true om] at h9; rw [← hd]; simp at h9; omega
   have hst := strG_esc1 (f := f) (s := s1) (x := x1) k3 k2 k4 ▸ hgi
   refine Zf zs [0, 7, 8] fun K V => ?_
   try simp only [go_sem, seval, e0, hS, hx, List.length_map, Int.toNat_natCast, Xd, e1, e2, ← hd]
   repeat (first | (refine And.intro ?_ ?_; · first | exact ⟨om, om⟩ | exact ⟨rfl, by simp [AV.sz, AV.memOK]⟩ | exact ⟨om, .inr trivial, om, om⟩) | refine peel ?_)
   refine kas ?_
   refine ZG zs [0, 7, 8] fun K V => ?_
   refine ka4 ?_
   refine kad ?_
   refine ns ?_
   apply hK3
   refine ZG zs [0, 7, 8] fun K V => ?_
   refine ka4 ?_
   refine kad ?_
   refine ns ?_
   refine ⟨?_, by first | omega | (rw [w1 om]; simp; omega)⟩
   exact ⟨i + 2, f, _, _, v + 1, om, om, om, hst, oz, by rw [List.length_append, w1 om]; rfl, by rw [List.map_append, hd]; rfl, fun k hk => by rw [if_neg om]; exact hlow k hk⟩
  have k4 : i + 1 < t.length → ¬ ((t.getD (i + 1) 0).toNat = 34 ∨ (t.getD (i + 1) 0).toNat = 92) := fun q => by rw [decide_eq_true om] at hb; rw [← hd]; have h9 := hb; simp at h9; omega
  refine Zf zs [0, 7, 8, 71] fun K V => ?_
  refine kb7 ?_
  repeat (first | (refine And.intro ?_ ?_; · first | (intro hx9; have h9 : i + 2 < t.length := (by simp at hx9; omega); exact ⟨om, om⟩)) | refine peel ?_)
  refine Yz func156 rfl rfl rfl (fun _ => (Vq d _ _)) ?_
  refine kb7 ?_
  repeat (first | (refine And.intro ?_ ?_; · first | (intro hx9; have h9 : i + 2 < t.length := (by simp at hx9; omega); exact ⟨om, om⟩) | (intros; simp_all; done)) | refine peel ?_)
  refine Yz func156 rfl rfl rfl (fun _ => (Vq e _ _)) ?_
  refine kb7 ?_
  repeat (first | (refine And.intro ?_ ?_; · first | (intros; simp_all; done)) | refine peel ?_)
  refine kas ?_
  refine Zb ?_ ?_ <;> intro hb
  ·have k5 : i + 2 < t.length := by rcases Nat.lt_or_ge (i + 2) t.length with q | q; exact q; (rw [decide_eq_false om] at hb; cases hb)
   rw [decide_eq_true om] at hb
   obtain ⟨a, ha, ha2⟩ : ∃ a, hexV d = some a ∧ hexI d = ((a : Nat) : Int) := Jk (by by_cases q : 0 ≤ hexI d; exact q; (rw [decide_eq_false q] at hb; cases hb))
   obtain ⟨b, hb2, hb3⟩ : ∃ b, hexV e = some b ∧ hexI e = ((b : Nat) : Int) := Jk (by by_cases q : 0 ≤ hexI e; exact q; (rw [decide_eq_false q] at hb; cases h : decide (0 ≤ hexI d) <;> rw [h] at hb <;> cases hb))
   have hal := Mm ha
   have hbl := Mm hb2
   have hst := strG_esc4 (f := f) (s := s1) (x := x1) k5 k2 (k4 om) (hd ▸ ha) (he ▸ hb2) ▸ hgi
   refine YS rfl zs [0, 7, 8] [.m, .m, .m, .q, .q, .c, .q, .m, .m, .q, .q, .c, .q, .q, .q, .w [], .q] [0, 1, 2, 3, 4, 5, 6, 7, 8, 9, 10, 11, 12, 13, 14, 15, 16] [0, 1, 2, 3, 4, 5, 6, 7, 8, 9, 10, 11, 12, 13, 14, 15, 16] (by kernel_rfl) (fun _ _ _ _ _ h => h) fun K V => ?_
   refine kbu ?_
   repeat (first | (refine And.intro ?_ ?_; · first | exact ⟨om, om⟩) | refine peel ?_)
   refine ZY func156 rfl rfl rfl (fun _ n => (Vq d _ _)) ?_
   refine kbu ?_
   repeat (first | (refine And.intro ?_ ?_; · first | exact ⟨om, om⟩) | refine peel ?_)
   refine ZY func156 rfl rfl rfl (fun _ n => (Vq e _ _)) ?_
   refine kbu ?_
   repeat (first | (refine And.intro ?_ ?_; · first | exact ⟨rfl, by simp [AV.sz, AV.memOK]⟩ | exact ⟨om, .inr trivial, om, om⟩) | refine peel ?_)
   refine kas ?_
   refine ZG zs [0, 7, 8] fun K V => ?_
   refine ka4 ?_
   refine kad ?_
   refine ns ?_
   apply hK3
   refine ZG zs [0, 7, 8] fun K V => ?_
   refine ka4 ?_
   refine kad ?_
   refine ns ?_
   refine ⟨?_, by first | omega | (rw [w1 om]; simp; omega)⟩
   exact ⟨i + 3, f, _, _, v + 1, om, om, om, hst, oz, by rw [List.length_append, w1 om]; rfl, by rw [List.map_append]; rfl, fun k hk => by rw [if_neg om]; exact hlow k hk⟩
  have k6 : strG (f + 1) (t.drop i) i s1 x1 = none := by
    rcases Nat.lt_or_ge (i + 1) t.length with q | q
    ·rcases Nat.lt_or_ge (i + 2) t.length with q2 | q2
     ·rw [decide_eq_true om] at hb
      refine strG_esc3 q2 k2 (k4 q) ?_
      by_cases hd0 : hexI d < 0
      ·left; rw [← hd]; exact Jj hd0
      ·right; rw [decide_eq_true om] at hb; rw [← he]; exact Jj otf
     ·exact strG_esc2 q k2 (k4 q) q2
    ·exact strG_esc0 hlt k2 q
  rw [← hgi, k6] at hr
  refine Zf zs [4, 5, 6] fun K V => ?_
  try simp only [go_sem, seval, e0, hS, hx, List.length_map, Int.toNat_natCast, Xd, e1, e2, ← hc]
  refine kad ?_
  exact kaZ
 have hge : t.length ≤ i := otf
 rw [← hgi, strG_end hge] at hr
 refine ax ?_
 apply hK1
 refine rg zs [4, 5, 6] ?_
 exact kaZ
theorem w1g {i m : Nat} (h : i < m) (hm : m ≤ 512) : IntKind.i64.wrap ((i : Int) + 1) = ((i + 1 : Nat) : Int) := by rw [w64 om om]; omega
theorem cut_next {t : List UInt8} {q i : Nat} (hq : q ≤ i) (h : i < t.length) : (t.take (i + 1)).drop q = (t.take i).drop q ++ [t.getD i 0] := by
 rw [List.take_succ_eq_append_getElem h, List.drop_append_of_le_length (by rw [List.length_take]; omega)]
 simp [List.getD, h]
theorem Wt {a b : Bool} (h : (bif a then b else false) = true) : a = true ∧ b = true := by cases a <;> simp_all
def Vo (t : List UInt8) (p : Nat) : List UInt8 × Nat × Bool := match strF t p with | some x => (x.1.str, x.2, true) | none => ([], 0, false)
theorem L8 (t : List UInt8) (p : Nat) (ht : t.length ≤ 512) (hp : p < t.length) (H : Heap) (n : Nat) : Ret prog 149 [.str t, .int .i64 p] H n (.tup [.str (Vo t p).1, .int .i64 (Vo t p).2.1, .bool (Vo t p).2.2]) H n := by
 have h := NQ t p ht hp H n
 unfold Vo
 cases hs : strF t p with
 | none => rw [hs] at h; exact h
 | some x => rw [hs] at h; exact h
theorem strF_kind {t : List UInt8} {p : Nat} {x : Wd × Nat} (h : strF t p = some x) : x.1.kind = 3 ∧ x.1.pos = p ∧ x.1.num = 0 := by
 unfold strF at h
 obtain ⟨y, _, rfl⟩ := Option.map_eq_some_iff.1 h
 exact ⟨rfl, rfl, rfl⟩
theorem nameQ_of (x : UInt8) : (bif (bif We x then true else Zw x) then true else ((x.toNat : Int) == 95)) = Y3 x := by
 unfold Y3
 have : ((x.toNat : Int) == 95) = (x.toNat == 95) := obq
 rw [this]
 cases We x <;> cases Zw x <;> rfl
theorem numX {t : List UInt8} {q j : Nat} (hwn : ZI Zw t q = j) (hq : q < t.length) (hc : Zw (t.getD q 0) = true) :
   q < j ∧ (t.drop q).takeWhile Zw = (t.take j).drop q ∧ numF t q = if 1099511627776 < satN ((t.take j).drop q) ∨ (1 < j - q ∧ (t.getD q 0).toNat = 48) then none else some (⟨2, q, (t.take j).drop q, satN ((t.take j).drop q), []⟩, j) := by
 have hcut := UN Zw t q
 rw [hwn] at hcut
 have hqj : q < j := hwn ▸ UK (drop_at hq) hc
 have hjl : j ≤ t.length := hwn ▸ (Xw Zw t q om).2
 refine ⟨hqj, hcut.symm, ?_⟩
 have hd : ∀ c ∈ (t.take j).drop q, Zw c = true := fun c hc => by
   rw [hcut] at hc
   exact List.all_eq_true.1 (List.all_takeWhile (p := Zw) (l := t.drop q)) c hc
 have hl : ((t.take j).drop q).length = j - q := by rw [List.length_drop, List.length_take]; omega
 have h0 : ((t.take j).drop q).getD 0 0 = t.getD q 0 := by
   simp only [List.getD_eq_getElem?_getD, List.getElem?_drop, List.getElem?_take]
   simp [show q < j from hqj]
 have e48 : (((t.take j).drop q).getD 0 0 = 48) = ((t.getD q 0).toNat = 48) := by rw [h0]; exact propext UInt8.toNat_inj.symm
 unfold numF
 simp only [hwn, ← hcut, hl, e48]
 by_cases hz : 1 < j - q ∧ (t.getD q 0).toNat = 48
 ·rw [if_pos (.inr hz), if_pos (.inr hz)]
 ·obtain ⟨n1, n2⟩ := satN_num hd (by rw [hl, e48]; exact hz)
  by_cases hb : 1099511627776 < numV ((t.take j).drop q)
  ·rw [if_pos (.inl hb), if_pos (.inl (n1.2 hb))]
  ·rw [if_neg (by rintro (h | h); exact hb h; exact hz h), if_neg (by rintro (h | h); exact hb (n1.1 h); exact hz h), n2 om]
theorem sign_cut {t : List UInt8} {q : Nat} (hq : q < t.length) : q + Qp t q ≤ t.length ∧ (match YA.find? (fun s => s.isPrefixOf (t.drop q)) with
   | some s => (Except.ok (⟨4, q, s, 0, []⟩, q + s.length) : Except Nat (Wd × Nat))
   | none => .error q) = if 0 < Qp t q then .ok (⟨4, q, (t.take (q + Qp t q)).drop q, 0, []⟩, q + Qp t q) else .error q := by
 unfold Qp
 cases hf : YA.find? (fun s => s.isPrefixOf (t.drop q)) with
 | none => exact ⟨by simp only; omega, rfl⟩
 | some s =>
   have hp := List.find?_some hf
   replace hp : s.isPrefixOf (t.drop q) = true := hp
   rw [List.isPrefixOf_iff_prefix] at hp
   obtain ⟨u, hu⟩ := hp
   have hm := List.mem_of_find?_eq_some hf
   have hpos : 0 < s.length := by
     simp only [YA, List.mem_cons, List.not_mem_nil, or_false] at hm
     rcases hm with rfl | rfl | rfl | rfl | rfl | rfl | rfl | rfl | rfl <;> decide
   have hl := congrArg List.length hu
   rw [List.length_append, List.length_drop] at hl
   refine ⟨by simp only; omega, ?_⟩
   simp only
   rw [if_pos hpos]
   have : (t.take (q + s.length)).drop q = s := by rw [List.drop_take, ← hu, Nat.add_sub_cancel_left]; simp
   rw [this]
theorem NH40.eqs {P Q : Prop} (g : Imp P Q := by (try simp only [go_sem, seval, hW, hB, f1, f2, Int.toNat_natCast]); exact Pm) : Imp P Q := g
theorem NH40.sd {P : Prop} (g : P := by first | (intro hx9; have h9 : i < t.length := (by simp at hx9; omega); exact ⟨om, om⟩) | (intros; simp_all; done) | fail) : P := g
set_option maxHeartbeats 3200000 in
open NH40 NZ in
theorem Ko (t : List UInt8) (p : Nat) (ht : t.length ≤ 512) (hp : p ≤ t.length) (H : Heap) (n : Nat) : Ret prog 136 [.str t, .int .i64 p] H n (.tup [rwAV (Xj t p).1, .int .i64 (Xj t p).2.1, .bool (Xj t p).2.2]) H n := by
 obtain ⟨r, hr⟩ : ∃ r, r = Xj t p := ⟨_, rfl⟩
 rw [← hr]
 have hW := hp
 have hB := hp
 have hcut := hp
 have f1 : (n = n + 1) = False := osi
 have f2 : (n + 1 = n) = False := osi
 refine Ret.fin ?_
 refine fw func136 ntmps136 results136 ?_
 refine rg zs [0, 1, 4] ?_
 refine bk fun K1 hK1 => ?_
 refine Zp (fun T' H' n' => ∃ i : Nat, i ≤ t.length ∧ T' = tl [(0, .str t), (1, .int .i64 i), (4, .loc n 0 0 0 [])] ∧ H' = H.put n (some (.arr 0 4 [.agg [.int .u8 0, .str [], .int .i64 0, .int .i64 0]])) ∧ n' = n + 1 ∧ ZI (fun c => c.toNat == 32) t i = ZI (fun c => c.toNat == 32) t p) (fun T' _ _ => t.length - iv (T' 1)) ?_ ?_
 ·exact ⟨p, hp, rfl, rfl, rfl, rfl⟩
 rintro T1 H1 n1 ⟨i, hi, rfl, rfl, rfl, hix⟩
 refine Za fun K2 hK2 => ?_
 refine rg zs [0, 1, 4, 21] ?_
 refine Zb ?_ ?_ <;> intro hb
 ·have hb1 := Wt hb
  have hlt : i < t.length := by have := of_decide_eq_true hb1.1; omega
  have hso : ((t.getD i 0).toNat == 32) = true := by have h9 := hb1.2; simp at h9 ⊢; omega
  refine kaQ ?_
  refine kbM ?_
  refine rg1 zs [0, 1, 4] ?_
  exact ⟨⟨i + 1, om, by rw [w1g hlt ht], by rw [Q8 hlt hso, hix]⟩, by rw [w1g hlt ht]; simp; omega⟩
 have hq : ZI (fun c => c.toNat == 32) t p = i := by
   rw [← hix]; rcases Nat.lt_or_ge i t.length with h | h
   ·rw [decide_eq_true om] at hb; exact UL h (by have h9 := hb; simp at h9 ⊢; omega)
   ·exact UM h
 refine ax ?_
 apply hK1
 refine rg zs [0, 1, 4, 7] ?_
 refine Za fun K3 hK3 => ?_
 refine rg zs [0, 1, 4, 7, 29] ?_
 refine Zb ?_ ?_ <;> intro hb
 ·have hge : t.length ≤ i := by have h9 := hb; simp at h9; omega
  have hrr : r = (⟨101, [], i, 0⟩, i, true) := by rw [hr, Vu (wordF_end hq hge)]; rfl
  exact kaj
 have hlt : i < t.length := by have h9 := hb; simp at h9; omega
 have hF := wordF_at hq hlt
 obtain ⟨c, hc⟩ : ∃ c, c = t.getD i 0 := ⟨_, rfl⟩
 have hcl := c.toNat_lt
 rw [← hc] at hF
 clear hix
 obtain ⟨q, rfl⟩ : ∃ q, q = i := ⟨_, rfl⟩
 refine kba ?_
 refine rg zs [0, 1, 4, 7, 8] ?_
 refine ZQ [0, 1, 4, 7, 8] (fun T' H' n' => ∃ (k e N : Nat), T' = tl [(0, .str t), (1, .int .i64 q), (4, .loc n 0 0 0 []), (7, .loc (n + 1) 0 0 0 []), (8, .int .i64 e)] ∧ H' (n + 1) = some (.arr 0 4 [.agg [.int .u8 k, .str [], .int .i64 q, .int .i64 N]]) ∧ H' n = some (.arr 0 4 [.agg [.int .u8 0, .str [], .int .i64 0, .int .i64 0]]) ∧ (∀ k, k < n → H' k = H k) ∧ n' = n + 2 ∧ q ≤ e ∧ e ≤ t.length ∧ r = (⟨k, (t.take e).drop q, q, N⟩, e, decide (q < e))) ?_ ?_
 ·refine kbM ?_
  refine Zf zs [0, 1, 4, 7, 8, 37] fun K V => ?_
  refine kby ?_
  repeat (first | (refine And.intro ?_ ?_; · first | exact ⟨om, om⟩) | refine peel ?_)
  refine Zo func147 rfl rfl rfl ((LH c _ _)) ?_
  refine kby ?_
  refine kad ?_
  refine Zb ?_ ?_ <;> intro hb
  ·rw [if_pos hb] at hF
   have hsm : We c = true := hb
   refine bk fun K4 hK4 => ?_
   refine Yp [0, 1, 4, 7, 8] ?_
   simp only [go_sem, seval]
   refine Zp (fun T' H' n' => ∃ j : Nat, q ≤ j ∧ j ≤ t.length ∧ T' = tl [(0, .str t), (1, .int .i64 q), (4, .loc n 0 0 0 []), (7, .loc (n + 1) 0 0 0 []), (8, .int .i64 j)] ∧ H' = (H.put n (some (.arr 0 4 [.agg [.int .u8 0, .str [], .int .i64 0, .int .i64 0]]))).put (n + 1) (some (.arr 0 4 [.agg [.int .u8 101, .str [], .int .i64 q, .int .i64 0]])) ∧ n' = n + 2 ∧ ZI Y3 t j = ZI Y3 t q) (fun T' _ _ => t.length - iv (T' 8)) ?_ ?_
   ·exact ⟨q, Nat.le_refl _, om, rfl, rfl, rfl, rfl⟩
   rintro T1 H1 n1 ⟨j, hqj, hj, rfl, rfl, rfl, hjx⟩
   refine Za fun K5 hK5 => ?_
   refine rk zs [0, 1, 4, 7, 8, 63] fun K V => ?_
   refine cg func147 (fun _ => (LH (t.getD j 0) _ _)) ?_
   refine cg func148 (fun _ => (WZ (t.getD j 0) _ _)) ?_
   refine kas ?_
   refine Zb ?_ ?_ <;> intro hb
   ·have hb1 := Wt hb
    have hlt2 : j < t.length := by have := of_decide_eq_true hb1.1; omega
    have hso : Y3 (t.getD j 0) = true := by rw [← nameQ_of]; exact hb1.2
    refine ak ?_
    apply hK5
    refine kbM ?_
    refine rg1 zs [0, 1, 4, 7, 8] ?_
    exact ⟨⟨j + 1, om, om, by rw [w1g hlt2 ht], by rw [Q8 hlt2 hso, hjx]⟩, by rw [w1g hlt2 ht]; simp; omega⟩
   have hwn : ZI Y3 t q = j := by
     rw [← hjx]; rcases Nat.lt_or_ge j t.length with h | h
     ·rw [decide_eq_true om] at hb; exact UL h (by rw [← nameQ_of]; exact hb)
     ·exact UM h
   refine ax ?_
   apply hK4
   refine rg1 zs [0, 1, 4, 7, 8] ?_
   refine ns ?_
   exact ⟨110, j, 0, rfl, rfl, fun k hk => onn, hqj, hj, by rw [hr, Vu hF]; have := UN Y3 t q; rw [hwn] at this; rw [this, hwn, decide_eq_true (hwn ▸ UK (drop_at hlt) (by rw [← hc]; unfold Y3; rw [hsm]; rfl))]; rfl⟩
  rw [if_neg (by rw [hb]; simp)] at hF
  refine Zf zs [0, 1, 4, 7, 8, 67] fun K V => ?_
  refine kby ?_
  repeat (first | (refine And.intro ?_ ?_; · first | exact ⟨om, om⟩) | refine peel ?_)
  refine Zo func148 rfl rfl rfl ((WZ c _ _)) ?_
  refine kby ?_
  refine kad ?_
  refine Zb ?_ ?_ <;> intro hb
  ·rw [if_pos hb] at hF
   refine bk fun K6 hK6 => ?_
   refine Yp [0, 1, 4, 7, 8] ?_
   simp only [go_sem, seval]
   refine Zp (fun T' H' n' => ∃ j : Nat, q ≤ j ∧ j ≤ t.length ∧ T' = tl [(0, .str t), (1, .int .i64 q), (4, .loc n 0 0 0 []), (7, .loc (n + 1) 0 0 0 []), (8, .int .i64 j)] ∧ H' = (H.put n (some (.arr 0 4 [.agg [.int .u8 0, .str [], .int .i64 0, .int .i64 0]]))).put (n + 1) (some (.arr 0 4 [.agg [.int .u8 101, .str [], .int .i64 q, .int .i64 (satN ((t.take j).drop q))]])) ∧ n' = n + 2 ∧ ZI Zw t j = ZI Zw t q) (fun T' _ _ => t.length - iv (T' 8)) ?_ ?_
   ·exact ⟨q, Nat.le_refl _, om, rfl, by rw [List.drop_eq_nil_of_le (by rw [List.length_take]; omega)]; rfl, rfl, rfl⟩
   rintro T1 H1 n1 ⟨j, hqj, hj, rfl, rfl, rfl, hjx⟩
   refine Za fun K7 hK7 => ?_
   refine rk zs [0, 1, 4, 7, 8, 81] fun K V => ?_
   refine cg func148 (fun _ => (WZ (t.getD j 0) _ _)) ?_
   refine kas ?_
   refine Zb ?_ ?_ <;> intro hb
   ·have hb1 := Wt hb
    have hlt2 : j < t.length := by have := of_decide_eq_true hb1.1; omega
    have hso : Zw (t.getD j 0) = true := hb1.2
    have hso2 := hso
    unfold Zw at hso2
    simp only [Bool.and_eq_true, decide_eq_true_eq] at hso2
    have hsn := satN_snoc ((t.take j).drop q) (t.getD j 0)
    rw [← cut_next hqj hlt2] at hsn
    refine ak ?_
    apply hK7
    refine kbM ?_
    refine Za fun K8 hK8 => ?_
    refine rg zs [0, 1, 4, 7, 8, 84] ?_
    refine Zb ?_ ?_ <;> intro hb
    ·have hN : satN ((t.take j).drop q) ≤ 1099511627776 := ott
     rw [if_pos hN] at hsn
     have e3 : IntKind.u8.wrap ((((t.getD j 0).toNat : Nat) : Int) - 48) = (((t.getD j 0).toNat - 48 : Nat) : Int) := by rw [IntKind.wrap_u8]; omega
     have e4 : IntKind.i64.wrap (10 * ((satN ((t.take j).drop q) : Nat) : Int)) = ((10 * satN ((t.take j).drop q) : Nat) : Int) := by rw [w64 om om]; omega
     have e5 : IntKind.i64.wrap ((((t.getD j 0).toNat - 48 : Nat) : Int)) = (((t.getD j 0).toNat - 48 : Nat) : Int) := w64 om om
     have e6 : IntKind.i64.wrap (((10 * satN ((t.take j).drop q) : Nat) : Int) + (((t.getD j 0).toNat - 48 : Nat) : Int)) = ((satN ((t.take (j + 1)).drop q) : Nat) : Int) := by rw [w64 om om]; omega
     refine QY rfl zs [0, 1, 4, 7, 8] [.q, .q, .q, .m, .m, .q, .q, .q, .q, .q, .w []] [0, 1, 2, 3, 4, 5, 6, 7, 8, 9, 10] [0, 1, 2, 3, 4, 5, 6, 7, 8, 9, 10] (by kernel_rfl) (fun _ _ _ _ _ h => h) fun K V => ?_
     try simp only [go_sem, seval, hW, hB, f1, f2, Int.toNat_natCast, e3, e4, e5, e6]
     repeat (first | (refine And.intro ?_ ?_; · first | exact ⟨om, om⟩) | refine peel ?_)
     refine kas ?_
     refine ns ?_
     exact kbr
    have hN : ¬ satN ((t.take j).drop q) ≤ 1099511627776 := otf
    rw [if_neg hN] at hsn
    refine ak ?_
    exact kbr
   have hwn : ZI Zw t q = j := by
     rw [← hjx]; rcases Nat.lt_or_ge j t.length with h | h
     ·rw [decide_eq_true om] at hb; exact UL h hb
     ·exact UM h
   have hdq : Zw c = true := by assumption
   obtain ⟨hqj2, hdt, hnf⟩ := numX hwn hlt (hc ▸ hdq)
   rw [hnf] at hF
   have ej : IntKind.i64.wrap ((j : Int) - (q : Int)) = ((j - q : Nat) : Int) := by rw [w64 om om]; omega
   refine ax ?_
   apply hK6
   refine rg zs [0, 1, 4, 7, 8] ?_
   refine Zf zs [0, 1, 4, 7, 8, 112] fun K V => ?_
   try simp only [go_sem, seval, hW, hB, f1, f2, Int.toNat_natCast, ej, ← hc]
   repeat (first | (refine And.intro ?_ ?_; · first | (intros; exact ⟨om, om⟩) | (intros; simp_all; done)) | refine peel ?_)
   refine kas ?_
   refine Zb ?_ ?_ <;> intro hb
   ·have hbad : 1099511627776 < satN ((t.take j).drop q) ∨ (1 < j - q ∧ (t.getD q 0).toNat = 48) := by
      rw [← hc]; by_cases h1 : 1099511627776 < satN ((t.take j).drop q)
      ·exact .inl h1
      ·right; rw [decide_eq_false om] at hb; have h9 := Wt hb; exact ⟨by have := of_decide_eq_true h9.1; omega, by have := h9.2; simp at this; omega⟩
    have hrr : r = (⟨100, [], q, satN ((t.take j).drop q)⟩, q, false) := by
      rw [if_pos hbad] at hF; rw [hr]; unfold Xj; rw [hF]; simp only; rw [← hc, if_pos hdq, hdt]
    refine rg zs [4, 5, 6] ?_
    refine ar ?_
    refine ⟨_, rfl, fun k hk => ?_, Frz.eq ?_ ?_⟩
    ·(try simp only [Pj]); (repeat first | rw [if_pos rfl] | rw [if_pos trivial] | rw [if_neg om]); first | done | exact hlow k hk
    ·first | (rw [hrr]; rfl) | (rw [hrr, show decide ((q : Int) < (e : Int)) = decide (q < e) from decide_eq_decide.2 om]; rfl)
    ·exact ⟨⟨trivial, trivial, trivial, trivial, trivial⟩, trivial, trivial, trivial⟩
   have hbad : ¬ (1099511627776 < satN ((t.take j).drop q) ∨ (1 < j - q ∧ (t.getD q 0).toNat = 48)) := by
     rw [← hc]; rintro (h1 | ⟨h1, h2⟩)
     ·rw [decide_eq_true om] at hb; cases hb
     ·rw [decide_eq_true (by omega : (1 : Int) < ((j - q : Nat) : Int)), show ((c.toNat : Int) == 48) = true by rw [h2]; rfl] at hb; cases h : decide ((1099511627776 : Int) < (satN ((t.take j).drop q) : Int)) <;> rw [h] at hb <;> cases hb
   rw [if_neg hbad] at hF
   refine ak ?_
   refine ns ?_
   exact ⟨100, j, _, rfl, rfl, fun k hk => onn, hqj, hj, by rw [hr, Vu hF, decide_eq_true hqj2]; rfl⟩
  rw [if_neg (by rw [hb]; simp)] at hF
  have hdg : Zw c = false := hb
  refine Zf zs [0, 1, 4, 7, 115] fun K V => ?_
  refine kby ?_
  repeat (first | (refine And.intro ?_ ?_; · first | exact ⟨om, om⟩) | refine peel ?_)
  refine kas ?_
  refine Zb ?_ ?_ <;> intro hb
  ·have k0 : c.toNat = 34 := by have h9 := hb; simp at h9; omega
   rw [if_pos k0] at hF
   have hrr : r = (⟨115, (Vo t q).1, q, 0⟩, (Vo t q).2.1, (Vo t q).2.2) := by
     rw [hr]; cases hs : strF t q with
     | none => rw [hs] at hF; unfold Xj Vo; rw [hF, hs]; simp only; rw [← hc, if_neg (by rw [hdg]; simp), if_pos k0]
     | some x => rw [hs] at hF; obtain ⟨y1, y2, y3⟩ := strF_kind hs; rw [Vu hF]; unfold Vo rwd; rw [hs, y1, y2, y3]; rfl
   refine rc zs [4, 7, 9, 10, 11] func149 ((L8 t q ht hlt _ _)) ?_
   refine rg zs [4, 7, 9, 10, 11] ?_
   refine rg zs [4, 7, 10, 11] ?_
   exact kaj
  have k0 : ¬ c.toNat = 34 := by have h9 := hb; simp at h9; omega
  rw [if_neg k0] at hF
  refine rc zs [0, 1, 4, 7, 8] func150 ((c_ref13_sign t q ht hlt _ _)) ?_
  refine rg1 zs [0, 1, 4, 7, 8] ?_
  refine ns ?_
  first
  | (obtain ⟨u1, u2⟩ := sign_cut (t := t) hlt; exact ⟨103, q + Qp t q, 0, rfl, rfl, fun k hk => onn, om, u1, by
      replace hF := hF.trans u2; rw [hr]; by_cases hz : 0 < Qp t q
      ·rw [if_pos hz] at hF; rw [Vu hF, decide_eq_true om]; rfl
      ·rw [if_neg hz] at hF; unfold Xj; rw [hF]; simp only; rw [← hc, if_neg (by rw [hdg]; simp), if_neg k0, decide_eq_false om, show Qp t q = 0 by omega, Nat.add_zero, List.drop_eq_nil_of_le (by rw [List.length_take]; omega)]⟩)
 rintro T1 H1 n1 ⟨k, e, N, rfl, hW, hB, hlow, rfl, hqe, het, hrr⟩
 refine Zf zs [1, 4, 7, 8] fun K V => ?_
 try simp only [go_sem, seval, hW, hB, f1, f2, Int.toNat_natCast, Option.getD_some]
 repeat (first | (refine And.intro ?_ ?_; · first | exact ⟨om, om, om⟩) | refine peel ?_)
 refine kas ?_
 exact kaj
end Go.Proofs.YtkmkbndcekklmaaGreatDoor
namespace Go.Rt
open Go Go.Sx
structure Ro where
 w : RWd
 p : Nat
 o : Nat
 bad : Int
def Ro.av (fs : List Fml) (t : List UInt8) (s : Ro) : AV := roAV fs t s.w s.p s.o s.bad
def Ro.obj (fs : List Fml) (t : List UInt8) (s : Ro) : AObj := .arr 0 9 [s.av fs t]
inductive CR where
 | nd (kind : List UInt8) (l : List CR) (sign text : List UInt8) (num : Int)
mutual
def CR.av : CR → AV
 | .nd k l s t n => .agg [.str k, .sl 5 (Pv l), .str s, .str t, .int .i64 n]
def Pv : List CR → List AV
 | [] => []
 | c :: l => c.av :: Pv l
end
theorem PH : ∀ l : List CR, Pv l = l.map CR.av
 | [] => rfl
 | c :: l => by rw [Pv, List.map_cons, PH l]
def CR.none : CR := .nd [] [] [] [] 0
def YI (s : Ro) (a : Int) : Ro := if s.bad < 0 then { s with bad := a } else s
def YV (t : List UInt8) (s : Ro) : Ro := YI s (if s.w.kind = 101 then t.length else s.w.pos)
def Zm (t : List UInt8) (s : Ro) : Ro :=
 if (Xj t s.p).2.2 then { s with w := (Xj t s.p).1, p := (Xj t s.p).2.1 } else YI { s with w := (Xj t s.p).1, p := (Xj t s.p).2.1 } (Xj t s.p).1.pos
def isB (k : Nat) (w : List UInt8) (s : Ro) : Bool := decide (s.bad < 0) && s.w.kind == k && s.w.text == w
def isS (t : List UInt8) (k : Nat) (w : List UInt8) (s : Ro) : Ro := if isB k w s then Zm t s else s
def wIn : List UInt8 := [105, 110]
def mayS (k : List UInt8) : List (List UInt8) := if k = wFam then sEq else if k = wTs then sCmp else sAll
def agK (k : List UInt8) : Nat := if k = wFam then 110 else if k = wTs then 100 else 115
def Ux (fs : List Fml) (t : List UInt8) (s : Ro) : CR × Ro :=
 if 0 ≤ s.bad then (.nd s.w.text [] [] [] 0, s)
 else if s.w.kind ≠ 110 ∨ s.w.text ∉ [wFam, Xk, YW, wTs] then (.nd s.w.text [] [] [] 0, YV t s)
 else if 0 ≤ (Zm t s).bad then (.nd s.w.text [] [] [] 0, Zm t s)
 else if (Zm t s).w.kind ≠ 103 ∨ (Zm t s).w.text ∉ mayS s.w.text then (.nd s.w.text [] (Zm t s).w.text [] 0, YV t (Zm t s))
 else if 0 ≤ (Zm t (Zm t s)).bad then (.nd s.w.text [] (Zm t s).w.text [] 0, Zm t (Zm t s))
 else if (Zm t (Zm t s)).w.kind ≠ agK s.w.text ∨ (s.w.text = wFam ∧ famF fs (Zm t (Zm t s)).w.text < 0) then
   (.nd s.w.text [] (Zm t s).w.text (Zm t (Zm t s)).w.text (Zm t (Zm t s)).w.num, YV t (Zm t (Zm t s)))
 else (.nd s.w.text [] (Zm t s).w.text (Zm t (Zm t s)).w.text (Zm t (Zm t s)).w.num, Zm t (Zm t (Zm t s)))
mutual
def YK (fs : List Fml) (t : List UInt8) (f : Nat) (s : Ro) : CR × Ro := match f with
 | 0 => (.none, YI s s.w.pos)
 | f + 1 => (.nd wOr (orsR fs t (f + 1) [] s).1 [] [] 0, (orsR fs t (f + 1) [] s).2)
termination_by (f, 3)
def orsR (fs : List Fml) (t : List UInt8) (f : Nat) (l : List CR) (s : Ro) : List CR × Ro := match f with
 | 0 => (l, YI s s.w.pos)
 | f + 1 => if s.bad < 0 then
     if isB 110 wOr (YF fs t f s).2 then orsR fs t f (l ++ [(YF fs t f s).1]) (isS t 110 wOr (YF fs t f s).2) else (l ++ [(YF fs t f s).1], (YF fs t f s).2)
   else (l, s)
termination_by (f, 2)
def YF (fs : List Fml) (t : List UInt8) (f : Nat) (s : Ro) : CR × Ro := match f with
 | 0 => (.none, YI s s.w.pos)
 | f + 1 => (.nd wAnd (X6 fs t (f + 1) [] s).1 [] [] 0, (X6 fs t (f + 1) [] s).2)
termination_by (f, 3)
def X6 (fs : List Fml) (t : List UInt8) (f : Nat) (l : List CR) (s : Ro) : List CR × Ro := match f with
 | 0 => (l, YI s s.w.pos)
 | f + 1 => if s.bad < 0 then
     if isB 110 wAnd (Yf fs t f s).2 then X6 fs t f (l ++ [(Yf fs t f s).1]) (isS t 110 wAnd (Yf fs t f s).2) else (l ++ [(Yf fs t f s).1], (Yf fs t f s).2)
   else (l, s)
termination_by (f, 2)
def Yf (fs : List Fml) (t : List UInt8) (f : Nat) (s : Ro) : CR × Ro := match f with
 | 0 => (.none, YI s s.w.pos)
 | f + 1 =>
   if isB 110 wNot s then
     if 16 < (Zm t s).o + 1 then (.none, { Zm t s with o := (Zm t s).o + 1, bad := s.w.pos })
     else (.nd wNot [(Yf fs t f { Zm t s with o := (Zm t s).o + 1 }).1] [] [] 0,
       { (Yf fs t f { Zm t s with o := (Zm t s).o + 1 }).2 with o := (Yf fs t f { Zm t s with o := (Zm t s).o + 1 }).2.o - 1 })
   else if isB 103 [40] s then
     if 16 < (Zm t s).o + 1 then (.none, { Zm t s with o := (Zm t s).o + 1, bad := s.w.pos })
     else
       let x := YK fs t f { Zm t s with o := (Zm t s).o + 1 }
       let z := if (isS t 103 [41] x.2).bad < 0 ∧ isB 103 [41] x.2 = false then YV t (isS t 103 [41] x.2) else isS t 103 [41] x.2
       (.nd wIn [x.1] [] [] 0, { z with o := z.o - 1 })
   else Ux fs t s
termination_by (f, 1)
end
def Ro.m (t : List UInt8) (s : Ro) : Nat := if s.bad < 0 then (t.length - s.p) + (if s.w.kind = 101 then 0 else 1) else 0
structure RI (t : List UInt8) (s : Ro) : Prop where
 p : s.p ≤ t.length
 o : s.o ≤ 17
 g : s.bad < 0 → s.o ≤ 16
structure Rgo (t : List UInt8) (s r : Ro) : Prop where
 p : r.p ≤ t.length
 o : s.o ≤ r.o
 o2 : r.o ≤ s.o + 1
 g : r.bad < 0 → r.o = s.o
 m : r.m t ≤ s.m t
section
variable {t : List UInt8} {s r : Ro}
theorem Rgo.ri (h : Rgo t s r) (hs : RI t s) (hb : s.bad < 0) : RI t r := ⟨h.p, by have := h.o2; have := hs.g hb; omega, fun hr => by have := h.g hr; have := hs.g hb; omega⟩
theorem Rgo.refl (hs : s.p ≤ t.length) : Rgo t s s := ⟨hs, Nat.le_refl _, om, fun _ => rfl, Nat.le_refl _⟩
theorem Rgo.trans {a : Ro} (h : Rgo t s a) (ha : a.bad < 0) (h2 : Rgo t a r) : Rgo t s r := by
 have e := h.g ha
 exact ⟨h2.p, by have := h2.o; omega, by have := h2.o2; omega, fun hr => by have := h2.g hr; omega, Nat.le_trans h2.m h.m⟩
theorem XW (s : Ro) (a : Int) : (YI s a).p = s.p ∧ (YI s a).o = s.o ∧ (YI s a).w = s.w := by unfold YI; split <;> exact ⟨rfl, rfl, rfl⟩
theorem failR_bad (s : Ro) {a : Int} (ha : 0 ≤ a) : 0 ≤ (YI s a).bad := by unfold YI; split; exact ha; omega
theorem wordX_le (ht : t.length ≤ 512) {p : Nat} (hp : p ≤ t.length) : (Xj t p).2.1 ≤ t.length := by
 cases h : XF t p with
 | ok x => rw [Vu h]; exact (Uu ht hp h).2.1
 | error a =>
   unfold Xj
   rw [h]
   have ha : a ≤ t.length := by
     have hq := Xw (fun c => c.toNat == 32) t p hp
     unfold XF at h
     simp only at h
     split at h
     ·cases h
     ·split at h
      ·cases h
      ·split at h
       ·split at h <;> cases h; exact hq.2
       ·split at h
        ·split at h <;> cases h; exact hq.2
        ·split at h <;> cases h; exact hq.2
   simp only
   split
   ·exact ha
   ·split
    ·simp
    ·exact ha
theorem YQ (t : List UInt8) (s : Ro) : (Zm t s).o = s.o := by
 unfold Zm; split
 ·rfl
 ·exact (XW _ _).2.1
theorem UZ (ht : t.length ≤ 512) (hs : s.p ≤ t.length) : (Zm t s).p ≤ t.length := by
 unfold Zm; split
 ·exact wordX_le ht hs
 ·rw [(XW _ _).1]; exact wordX_le ht hs
theorem nextR_err {a : Nat} (h : XF t s.p = .error a) (hb : s.bad < 0) : (Zm t s).bad = a := by
 obtain ⟨e1, e2⟩ := wordX_pos h
 unfold Zm
 rw [e2, if_neg osi]
 unfold YI
 rw [if_pos hb, e1]
theorem nextR_ok {x : Wd × Nat} (h : XF t s.p = .ok x) : Zm t s = { s with w := rwd x.1, p := x.2 } := by
 unfold Zm
 rw [Vu h]; rfl
theorem nextR_m (ht : t.length ≤ 512) (hs : s.p ≤ t.length) (hb : s.bad < 0) (hk : s.w.kind ≠ 101) : (Zm t s).m t + 1 ≤ s.m t := by
 have h0 : s.m t = t.length - s.p + 1 := by unfold Ro.m; rw [if_pos hb, if_neg hk]
 cases h : XF t s.p with
 | ok x =>
   obtain ⟨w, q⟩ := x
   obtain ⟨h1, h2, h3, h4, _⟩ := Uu ht hs h
   rw [nextR_ok h, h0]
   unfold Ro.m
   rw [if_pos hb]
   by_cases k : w.kind = 0
   ·rw [if_pos (show (rwd w).kind = 101 by simp [rwd, V3, k])]
    have := h3 k; simp only; omega
   ·have := h4 k
    simp only
    split <;> omega
 | error a =>
   have hz := nextR_err h hb
   unfold Ro.m at h0 ⊢
   rw [if_neg om]
   omega
theorem UF (ht : t.length ≤ 512) (hs : s.p ≤ t.length) (hb : s.bad < 0) (hk : s.w.kind ≠ 101) : Rgo t s (Zm t s) :=
 ⟨UZ ht hs, by rw [YQ]; omega, by rw [YQ]; omega, fun _ => YQ t s, by have := nextR_m ht hs hb hk; omega⟩
theorem Q7 (hs : s.p ≤ t.length) : Rgo t s (YV t s) := by
 have h := XW s (if s.w.kind = 101 then (t.length : Int) else s.w.pos)
 have hbad : 0 ≤ (YV t s).bad := failR_bad s (by split <;> omega)
 refine ⟨by unfold YV; rw [h.1]; exact hs, by unfold YV; rw [h.2.1]; omega, by unfold YV; rw [h.2.1]; omega, fun hb => om, ?_⟩
 unfold Ro.m; rw [if_neg om]; omega
theorem Xq {k : Nat} {w : List UInt8} (h : isB k w s = true) : s.bad < 0 ∧ s.w.kind = k ∧ s.w.text = w := by
 unfold isB at h
 simp only [Bool.and_eq_true, decide_eq_true_eq, beq_iff_eq] at h
 exact ⟨h.1.1, h.1.2, h.2⟩
theorem La (ht : t.length ≤ 512) (hs : s.p ≤ t.length) {k : Nat} (hk : k ≠ 101) {w : List UInt8} : Rgo t s (isS t k w s) := by
 unfold isS; split
 ·rename_i h
  obtain ⟨h1, h2, _⟩ := Xq h
  exact UF ht hs h1 om
 ·exact .refl hs
theorem isS_m (ht : t.length ≤ 512) (hs : s.p ≤ t.length) {k : Nat} (hk : k ≠ 101) {w : List UInt8} (h : isB k w s = true) : (isS t k w s).m t + 1 ≤ s.m t := by
 unfold isS; rw [if_pos h]
 obtain ⟨h1, h2, _⟩ := Xq h
 exact nextR_m ht hs h1 om
theorem testR_go {fs : List Fml} (ht : t.length ≤ 512) (hs : s.p ≤ t.length) : Rgo t s (Ux fs t s).2 := by
 have n1 := fun hb hk => UF (s := s) ht hs hb hk
 have np1 := UZ ht hs
 have n2 := fun hb hk => UF (s := Zm t s) ht np1 hb hk
 have np2 := UZ ht np1
 have n3 := fun hb hk => UF (s := Zm t (Zm t s)) ht np2 hb hk
 unfold Ux
 generalize Zm t s = s1 at *
 generalize Zm t s1 = s2 at *
 generalize Zm t s2 = s3 at *
 by_cases hb : 0 ≤ s.bad
 ·rw [if_pos hb]; exact .refl hs
 rw [if_neg hb]
 by_cases hk : s.w.kind ≠ 110 ∨ s.w.text ∉ [wFam, Xk, YW, wTs]
 ·rw [if_pos hk]; exact Q7 hs
 rw [if_neg hk]
 have hk1 : s.w.kind = 110 := Classical.byContradiction fun e => hk (.inl e)
 have g1 := n1 om om
 by_cases hb1 : 0 ≤ s1.bad
 ·rw [if_pos hb1]; exact g1
 rw [if_neg hb1]
 by_cases hk2 : s1.w.kind ≠ 103 ∨ s1.w.text ∉ mayS s.w.text
 ·rw [if_pos hk2]; exact g1.trans om (Q7 g1.p)
 rw [if_neg hk2]
 have hk3 : s1.w.kind = 103 := Classical.byContradiction fun e => hk2 (.inl e)
 have g2 := n2 om om
 by_cases hb2 : 0 ≤ s2.bad
 ·rw [if_pos hb2]; exact g1.trans om g2
 rw [if_neg hb2]
 by_cases hk4 : s2.w.kind ≠ agK s.w.text ∨ (s.w.text = wFam ∧ famF fs s2.w.text < 0)
 ·rw [if_pos hk4]; exact (g1.trans om g2).trans om (Q7 g2.p)
 rw [if_neg hk4]
 have hk5 : s2.w.kind ≠ 101 := fun e => hk4 (.inl (by rw [e]; unfold agK; split; omega; split <;> omega))
 exact (g1.trans om g2).trans om (n3 om hk5)
end
theorem Ky {t : List UInt8} {s : Ro} (hs : s.p ≤ t.length) : Rgo t s (YI s s.w.pos) := by
 have h := XW s (s.w.pos : Int)
 have hbad : 0 ≤ (YI s (s.w.pos : Int)).bad := failR_bad s om
 refine ⟨by rw [h.1]; exact hs, by rw [h.2.1]; omega, by rw [h.2.1]; omega, fun hb => om, ?_⟩
 unfold Ro.m; rw [if_neg om]; omega
theorem VM {fs : List Fml} {t : List UInt8} (ht : t.length ≤ 512) : ∀ f, (∀ s, s.p ≤ t.length → Rgo t s (YK fs t f s).2) ∧ (∀ l s, s.p ≤ t.length → Rgo t s (orsR fs t f l s).2) ∧
   (∀ s, s.p ≤ t.length → Rgo t s (YF fs t f s).2) ∧ (∀ l s, s.p ≤ t.length → Rgo t s (X6 fs t f l s).2) ∧ (∀ s, s.p ≤ t.length → Rgo t s (Yf fs t f s).2) := by
 intro f
 induction f with
 | zero => exact ⟨fun s hs => by unfold YK; exact Ky hs, fun l s hs => by unfold orsR; exact Ky hs, fun s hs => by unfold YF; exact Ky hs, fun l s hs => by unfold X6; exact Ky hs, fun s hs => by unfold Yf; exact Ky hs⟩
 | succ f ih =>
   obtain ⟨i1, i2, i3, i4, i5⟩ := ih
   have ors : ∀ l s, s.p ≤ t.length → Rgo t s (orsR fs t (f + 1) l s).2 := fun l s hs => by
     rw [orsR]
     have g := i3 s hs
     split
     ·split
      ·rename_i h
       obtain ⟨h1, h2, _⟩ := Xq h
       have g2 := La ht g.p (by decide : 110 ≠ 101) (w := wOr)
       by_cases hb : (isS t 110 wOr (YF fs t f s).2).bad < 0
       ·exact (g.trans h1 g2).trans hb (i2 _ _ g2.p)
       ·have := i2 (l ++ [(YF fs t f s).1]) (isS t 110 wOr (YF fs t f s).2) g2.p
        have e : (orsR fs t f (l ++ [(YF fs t f s).1]) (isS t 110 wOr (YF fs t f s).2)).2.o ≤ (isS t 110 wOr (YF fs t f s).2).o := by
          cases f with
          | zero => unfold orsR; rw [(XW _ _).2.1]; exact Nat.le_refl _
          | succ f => rw [orsR, if_neg hb]; simp
        have e2 : (isS t 110 wOr (YF fs t f s).2).o = (YF fs t f s).2.o := by unfold isS; rw [if_pos h]; exact YQ _ _
        exact kbG
      ·exact g
     ·exact .refl hs
   have ands : ∀ l s, s.p ≤ t.length → Rgo t s (X6 fs t (f + 1) l s).2 := fun l s hs => by
     rw [X6]
     have g := i5 s hs
     split
     ·split
      ·rename_i h
       obtain ⟨h1, h2, _⟩ := Xq h
       have g2 := La ht g.p (by decide : 110 ≠ 101) (w := wAnd)
       by_cases hb : (isS t 110 wAnd (Yf fs t f s).2).bad < 0
       ·exact (g.trans h1 g2).trans hb (i4 _ _ g2.p)
       ·have := i4 (l ++ [(Yf fs t f s).1]) (isS t 110 wAnd (Yf fs t f s).2) g2.p
        have e : (X6 fs t f (l ++ [(Yf fs t f s).1]) (isS t 110 wAnd (Yf fs t f s).2)).2.o ≤ (isS t 110 wAnd (Yf fs t f s).2).o := by
          cases f with
          | zero => unfold X6; rw [(XW _ _).2.1]; exact Nat.le_refl _
          | succ f => rw [X6, if_neg hb]; simp
        have e2 : (isS t 110 wAnd (Yf fs t f s).2).o = (Yf fs t f s).2.o := by unfold isS; rw [if_pos h]; exact YQ _ _
        exact kbG
      ·exact g
     ·exact .refl hs
   refine ⟨fun s hs => by unfold YK; exact ors [] s hs, ors, fun s hs => by unfold YF; exact ands [] s hs, ands, fun s hs => ?_⟩
   have dec : ∀ {s r : Ro}, Rgo t { s with o := s.o + 1 } r → Rgo t s { r with o := r.o - 1 } := fun {s r} h =>
     ⟨h.p, by have := h.o; simp only at this ⊢; omega, by have := h.o2; simp only at this ⊢; omega, fun hr => by have := h.g hr; simp only at this ⊢; omega, h.m⟩
   have deep : ∀ {a : Int} {s : Ro}, s.p ≤ t.length → 0 ≤ a → Rgo t s { s with o := s.o + 1, bad := a } := fun {a s} h ha =>
     ⟨h, osi, osi, fun hr => by simp only at hr; omega, by unfold Ro.m; simp only; rw [if_neg om]; omega⟩
   have up : ∀ {s a r : Ro}, Rgo t s a → a.o = s.o → Rgo t a r → Rgo t s r := fun {s a r} h e h2 =>
     ⟨h2.p, by have := h2.o; omega, by have := h2.o2; omega, fun hr => by have := h2.g hr; omega, Nat.le_trans h2.m h.m⟩
   rw [Yf]
   split
   ·rename_i h
    obtain ⟨h1, h2, _⟩ := Xq h
    have g := UF ht hs h1 om
    split
    ·exact up g (YQ t s) (deep g.p om)
    ·exact up g (YQ t s) (dec (i5 { Zm t s with o := (Zm t s).o + 1 } g.p))
   ·split
    ·rename_i h
     obtain ⟨h1, h2, _⟩ := Xq h
     have g := UF ht hs h1 om
     split
     ·exact up g (YQ t s) (deep g.p om)
     ·refine up g (YQ t s) (dec ?_)
      have g3 := i1 { Zm t s with o := (Zm t s).o + 1 } g.p
      have g4 := La ht g3.p (by decide : 103 ≠ 101) (w := [41])
      have e2 : (isS t 103 [41] (YK fs t f { Zm t s with o := (Zm t s).o + 1 }).2).o = (YK fs t f { Zm t s with o := (Zm t s).o + 1 }).2.o := by unfold isS; split; exact YQ _ _; rfl
      have g5 : Rgo t { Zm t s with o := (Zm t s).o + 1 } (isS t 103 [41] (YK fs t f { Zm t s with o := (Zm t s).o + 1 }).2) :=
        ⟨g4.p, by have := g3.o; omega, by have := g3.o2; omega, fun hr => by
          by_cases hb : isB 103 [41] (YK fs t f { Zm t s with o := (Zm t s).o + 1 }).2 = true
          ·have := g3.g (Xq hb).1; omega
          ·unfold isS at hr ⊢; rw [if_neg hb] at hr ⊢; exact g3.g hr, Nat.le_trans g4.m g3.m⟩
      simp only
      split
      ·rename_i hz
       exact g5.trans hz.1 (Q7 g5.p)
      ·exact g5
    ·exact testR_go ht hs
structure WdOK (t : List UInt8) (w : Wd) : Prop where
 e : w.kind = 0 → w.pos = t.length
 n : w.kind = 1 → ∃ c l, w.text = c :: l ∧ We c = true
 s : w.kind = 4 → w.text ∈ YA
theorem wordF_WdOK {t : List UInt8} {p q : Nat} (hp : p ≤ t.length) {w : Wd} (h : XF t p = .ok (w, q)) : WdOK t w := by
 have hq := Xw (fun c => c.toNat == 32) t p hp
 unfold XF at h
 simp only at h
 split at h
 ·rename_i hd
  cases h
  refine ⟨fun _ => ?_, fun k => (by cases k), fun k => (by cases k)⟩
  have := List.drop_eq_nil_iff.1 hd
  simp only; omega
 ·rename_i c l hd
  split at h
  ·rename_i hc
   cases h
   exact ⟨fun k => (by cases k), fun _ => ⟨c, l.takeWhile Y3, (by rw [hd, List.takeWhile_cons, if_pos (by unfold Y3; rw [hc]; rfl)]), hc⟩, fun k => (by cases k)⟩
  ·split at h
   ·split at h
    ·rename_i x hx
     cases h
     unfold numF at hx
     simp only at hx
     split at hx
     ·cases hx
     ·cases hx; exact ⟨fun k => (by cases k), fun k => (by cases k), fun k => (by cases k)⟩
    ·cases h
   ·split at h
    ·split at h
     ·rename_i x hx
      cases h
      unfold strF at hx
      obtain ⟨y, _, hy⟩ := Option.map_eq_some_iff.1 hx
      cases hy; exact ⟨fun k => (by cases k), fun k => (by cases k), fun k => (by cases k)⟩
     ·cases h
    ·split at h
     ·rename_i s hs
      cases h
      exact ⟨fun k => (by cases k), fun k => (by cases k), fun _ => List.mem_of_find?_eq_some hs⟩
     ·cases h
def toR (s : Qst) : Ro := ⟨rwd s.nxt, s.far, s.deep, -1⟩
theorem wordF_kind {t : List UInt8} {p q : Nat} {w : Wd} (h : XF t p = .ok (w, q)) : w.kind ≤ 4 := by
 unfold XF at h
 simp only at h
 split at h
 ·cases h; simp
 ·split at h
  ·cases h; simp
  ·split at h
   ·split at h
    ·rename_i x hx
     cases h
     unfold numF at hx
     simp only at hx
     split at hx
     ·cases hx
     ·cases hx; simp
    ·cases h
   ·split at h
    ·split at h
     ·rename_i x hx
      cases h
      unfold strF at hx
      obtain ⟨y, _, hy⟩ := Option.map_eq_some_iff.1 hx
      cases hy; simp
     ·cases h
    ·split at h
     ·cases h; simp
     ·cases h
structure QsOK (t : List UInt8) (s : Qst) : Prop where
 w : WdOK t s.nxt
 p : s.far ≤ t.length
 k : s.nxt.kind ≤ 4
section
variable {t : List UInt8} {s : Qst}
theorem stepF_rel (ht : t.length ≤ 512) (hs : s.far ≤ t.length) : match VW t s with
   | .ok s' => Zm t (toR s) = toR s' ∧ QsOK t s' ∧ s'.deep = s.deep
   | .error p => (Zm t (toR s)).bad = p ∧ (Zm t (toR s)).o = s.deep := by
 unfold VW
 cases h : XF t s.far with
 | ok x => exact ⟨nextR_ok (s := toR s) h, ⟨wordF_WdOK (q := x.2) (w := x.1) hs h, (Uu (w := x.1) (q := x.2) ht hs h).2.1, wordF_kind (w := x.1) (q := x.2) h⟩, rfl⟩
 | error a => exact ⟨nextR_err (s := toR s) h (by simp [toR]), YQ t _⟩
theorem takeF_rel (ht : t.length ≤ 512) (hs : s.far ≤ t.length) : match Yw t s with
   | .ok x => Zm t (toR s) = toR x.2 ∧ QsOK t x.2 ∧ x.2.deep = s.deep ∧ x.1 = s.nxt
   | .error p => (Zm t (toR s)).bad = p ∧ (Zm t (toR s)).o = s.deep := by
 have h := stepF_rel (s := { s with out := s.out ++ [s.nxt] }) ht hs
 unfold Yw
 cases e : VW t { s with out := s.out ++ [s.nxt] } with
 | ok y => rw [e] at h; exact ⟨h.1, h.2.1, h.2.2, rfl⟩
 | error a => rw [e] at h; exact h
theorem Vx (ht : t.length ≤ 512) (hs : s.far ≤ t.length) {x : Wd × Qst} (h : Yw t s = .ok x) : Zm t (toR s) = toR x.2 ∧ QsOK t x.2 ∧ x.2.deep = s.deep ∧ x.1 = s.nxt := by
 have := takeF_rel (s := s) ht hs; rw [h] at this; exact this
theorem Vy (ht : t.length ≤ 512) (hs : s.far ≤ t.length) {p : Nat} (h : Yw t s = .error p) : (Zm t (toR s)).bad = p := by
 have := takeF_rel (s := s) ht hs; rw [h] at this; exact this.1
theorem VE (k : Nat) : (V3 k = 101 ↔ k = 0) ∧ (V3 k = 110 ↔ k = 1) ∧ (V3 k = 100 ↔ k = 2) ∧ (V3 k = 115 ↔ k = 3) := by
 unfold V3
 by_cases h0 : k = 0
 ·subst h0; decide
 by_cases h1 : k = 1
 ·subst h1; decide
 by_cases h2 : k = 2
 ·subst h2; decide
 by_cases h3 : k = 3
 ·subst h3; decide
 simp [h0, h1, h2, h3]
theorem KO {k : Nat} : V3 k = 103 ↔ 4 ≤ k := by
 unfold V3
 by_cases h0 : k = 0
 ·subst h0; decide
 by_cases h1 : k = 1
 ·subst h1; decide
 by_cases h2 : k = 2
 ·subst h2; decide
 by_cases h3 : k = 3
 ·subst h3; decide
 simp [h0, h1, h2, h3]; omega
theorem Ut (h : WdOK t s.nxt) : (YV t (toR s)).bad = s.nxt.pos := by
 have e1 := (VE s.nxt.kind).1
 unfold YV YI
 rw [if_pos (by simp [toR])]
 by_cases h0 : (toR s).w.kind = 101
 ·rw [if_pos h0, h.e (e1.1 h0)]
 ·rw [if_neg h0]; rfl
theorem Jg (h : WdOK t s.nxt) {w : List UInt8} (hw : w ∉ YA) : isB 110 w (toR s) = isF s w := by
 unfold isB isF toR rwd
 simp only
 by_cases h1 : s.nxt.kind = 1
 ·simp [h1, V3]
 ·have e1 : (V3 s.nxt.kind == 110) = false := by rw [beq_eq_false_iff_ne]; exact fun e => h1 ((VE _).2.1.1 e)
  rw [e1]
  by_cases h4 : s.nxt.kind = 4
  ·have : (s.nxt.text == w) = false := by rw [beq_eq_false_iff_ne]; intro e; exact hw (e ▸ h.s h4)
   rw [this]; simp
  ·simp [h1, h4]
theorem Ml (h : WdOK t s.nxt) (hk : s.nxt.kind ≤ 4) {c : UInt8} (hc : We c = false) (l : List UInt8) : isB 103 (c :: l) (toR s) = isF s (c :: l) := by
 unfold isB isF toR rwd
 simp only
 by_cases h4 : s.nxt.kind = 4
 ·simp [h4, V3]
 ·have e1 : (V3 s.nxt.kind == 103) = false := by rw [beq_eq_false_iff_ne]; exact fun e => h4 (by have := KO.1 e; omega)
  rw [e1]
  by_cases h1 : s.nxt.kind = 1
  ·obtain ⟨d, m, e, hd⟩ := h.n h1
   have : (s.nxt.text == c :: l) = false := by rw [beq_eq_false_iff_ne, e]; intro e2; cases e2; rw [hc] at hd; cases hd
   rw [this]; simp
  ·simp [h1, h4]
end
def XA (op : Tst → Tst → Tst) : List Tst → Tst
 | [] => .ts [] 0
 | a :: l => l.foldl op a
theorem foldT_snoc (op : Tst → Tst → Tst) (l : List Tst) (a : Tst) : XA op (l ++ [a]) = if l = [] then a else op (XA op l) a := by
 cases l with
 | nil => rfl
 | cons b l => simp [XA]
mutual
def CR.tst (fs : List Fml) : CR → Tst
 | .nd k l s t n => if k = wOr then XA .or (Ps fs l) else if k = wAnd then XA .and (Ps fs l) else if k = wNot then .not (XA .or (Ps fs l)) else if k = wIn then XA .or (Ps fs l)
   else if k = wFam then .fam (famF fs t) s else if k = wTs then .ts s n.toNat else .cmp (k == Xk) s t
def Ps (fs : List Fml) : List CR → List Tst
 | [] => []
 | c :: l => c.tst fs :: Ps fs l
end
theorem PM (fs : List Fml) : ∀ l : List CR, Ps fs l = l.map (CR.tst fs)
 | [] => rfl
 | c :: l => by rw [Ps, List.map_cons, PM fs l]
def kdOf (k : List UInt8) : Nat := if k = wFam then 1 else if k = wTs then 2 else 3
def mkT (fs : List Fml) (k sg : List UInt8) (w : Wd) : Tst := if k = wFam then .fam (famF fs w.text) sg else if k = wTs then .ts sg w.num else .cmp (k == Xk) sg w.str
def testM (fs : List Fml) (t k : List UInt8) (s : Qst) : Except Nat (Tst × Qst) :=
 (Jv t (mayS k) s).bind fun y => if y.2.nxt.kind ≠ kdOf k ∨ (k = wFam ∧ famF fs y.2.nxt.text < 0) then .error y.2.nxt.pos else (Yw t y.2).map fun z => (mkT fs k y.1 y.2.nxt, z.2)
def ws4 : List (List UInt8) := [wFam, Xk, YW, wTs]
theorem KJ {t : List UInt8} {s : Qst} {x : Wd × Qst} (h : Yw t s = .ok x) : x.1 = s.nxt := by
 unfold Yw at h
 cases hs : VW t { s with out := s.out ++ [s.nxt] } with
 | ok y => rw [hs] at h; cases h; rfl
 | error a => rw [hs] at h; cases h
theorem wantM {fs : List Fml} {t k sg : List UInt8} {s : Qst} {n : Nat} (hn : kdOf k = n) (hk : k ≠ wFam) :
   ((JV t n s).map fun z => (mkT fs k sg z.1, z.2)) = (if s.nxt.kind ≠ kdOf k ∨ (k = wFam ∧ famF fs s.nxt.text < 0) then .error s.nxt.pos else (Yw t s).map fun z => (mkT fs k sg s.nxt, z.2)) := by
 unfold JV
 by_cases h : s.nxt.kind = n
 ·rw [if_pos h, if_neg (by rintro (q | q); exact q (h.trans hn.symm); exact hk q.1)]
  cases ht : Yw t s with
  | ok x => rw [WH, WH, KJ ht]
  | error a => rfl
 ·rw [if_neg h, if_pos (.inl (by rw [hn]; exact h))]; rfl
theorem testF_M (fs : List Fml) (t : List UInt8) (s : Qst) : Ju fs t s = if isF s wFam ∨ isF s Xk ∨ isF s YW ∨ isF s wTs then (Yw t s).bind fun x => testM fs t s.nxt.text x.2 else .error s.nxt.pos := by
 have tx : ∀ w, isF s w = true → s.nxt.text = w := fun w h => by unfold isF at h; simp only [Bool.and_eq_true, beq_iff_eq] at h; exact h.2
 unfold Ju
 by_cases h1 : isF s wFam = true
 ·rw [if_pos h1, if_pos (.inl h1), tx _ h1]
  congr 1; funext x; unfold testM
  rw [show mayS wFam = sEq from rfl]
  congr 1; funext y
  rw [show kdOf wFam = 1 from rfl]
  simp only [true_and]
  rfl
 ·rw [if_neg h1]
  by_cases h2 : isF s Xk = true ∨ isF s YW = true
  ·rw [if_pos h2, if_pos (by rcases h2 with h | h <;> simp [h])]
   rcases h2 with h2 | h2
   ·rw [tx _ h2]
    cases ht : Yw t s with
    | error a => rfl
    | ok x =>
      rw [ZU, ZU, KJ ht, tx _ h2]
      unfold testM
      rw [show mayS Xk = sAll from rfl]
      congr 1; funext y
      exact wantM (k := Xk) rfl odc
   ·rw [tx _ h2]
    cases ht : Yw t s with
    | error a => rfl
    | ok x =>
      rw [ZU, ZU, KJ ht, tx _ h2]
      unfold testM
      rw [show mayS YW = sAll from rfl]
      congr 1; funext y
      exact wantM (k := YW) rfl odc
  ·rw [if_neg h2]
   by_cases h3 : isF s wTs = true
   ·rw [if_pos h3, if_pos (by simp [h3]), tx _ h3]
    congr 1; funext x; unfold testM
    rw [show mayS wTs = sCmp from rfl]
    congr 1; funext y
    exact wantM (k := wTs) rfl odc
   ·rw [if_neg h3, if_neg (by rintro (h | h | h | h); exact h1 h; exact h2 (.inl h); exact h2 (.inr h); exact h3 h)]
section
variable {fs : List Fml} {t : List UInt8} {s : Qst}
theorem Mg (s : Qst) : ¬ (0 : Int) ≤ (toR s).bad := by simp [toR]
theorem toR_kind (s : Qst) : (toR s).w.kind = V3 s.nxt.kind := rfl
theorem Vw (h : s.nxt.kind ≠ 3) : (toR s).w.text = s.nxt.text := by show (if s.nxt.kind = 3 then _ else _) = _; rw [if_neg h]
theorem ws4_sg : ∀ w ∈ ws4, w ∉ YA := odc
theorem testF_rel (ht : t.length ≤ 512) (hq : QsOK t s) : match Ju fs t s with
   | .ok x => (Ux fs t (toR s)).2 = toR x.2 ∧ (Ux fs t (toR s)).1.tst fs = x.1 ∧ QsOK t x.2 ∧ x.2.deep = s.deep
   | .error p => (Ux fs t (toR s)).2.bad = p := by
 rw [testF_M]
 unfold Ux
 rw [if_neg (Mg s)]
 have e : ∀ w ∈ ws4, isB 110 w (toR s) = isF s w := fun w hw => Jg hq.w (ws4_sg w hw)
 by_cases h0 : (toR s).w.kind ≠ 110 ∨ (toR s).w.text ∉ [wFam, Xk, YW, wTs]
 ·rw [if_pos h0, if_neg]
  ·exact Ut hq.w
  ·rintro h
   have : ∃ w ∈ ws4, isF s w = true := by
     rcases h with h | h | h | h
     ·exact ⟨wFam, odc, h⟩
     ·exact ⟨Xk, odc, h⟩
     ·exact ⟨YW, odc, h⟩
     ·exact ⟨wTs, odc, h⟩
   obtain ⟨w, hw, hf⟩ := this
   rw [← e w hw] at hf
   obtain ⟨_, b2, b3⟩ := Xq hf
   rcases h0 with h0 | h0
   ·exact h0 b2
   ·exact h0 (b3 ▸ hw)
 rw [if_neg h0]
 have k110 : (toR s).w.kind = 110 := Classical.byContradiction fun q => h0 (.inl q)
 have tin : (toR s).w.text ∈ ws4 := Classical.byContradiction fun q => h0 (.inr q)
 have k1 : s.nxt.kind = 1 := (VE _).2.1.1 k110
 have tx : (toR s).w.text = s.nxt.text := Vw om
 rw [if_pos (by
   have : isF s s.nxt.text = true := by unfold isF; simp [k1]
   rw [tx] at tin
   simp only [ws4, List.mem_cons, List.not_mem_nil, or_false] at tin
   rcases tin with q | q | q | q <;> rw [q] at this <;> simp [this])]
 rw [tx] at tin ⊢
 generalize s.nxt.text = k at *
 cases hx : Yw t s with
 | error a =>
   have := Vy ht hq.p hx
   rw [if_pos om]; exact this
 | ok x =>
   obtain ⟨x1, x2, x3, _⟩ := Vx ht hq.p hx
   rw [x1, if_neg (Mg _), ZU]
   unfold testM Jv
   by_cases h4 : (toR x.2).w.kind ≠ 103 ∨ (toR x.2).w.text ∉ mayS k
   ·rw [if_pos h4, if_neg]
    ·exact Ut x2.w
    ·rintro ⟨a1, a2⟩
     rcases h4 with h4 | h4
     ·exact h4 (KO.2 om)
     ·exact h4 (by rw [Vw om]; exact a2)
   rw [if_neg h4]
   have k4 : x.2.nxt.kind = 4 := by
     have : (toR x.2).w.kind = 103 := Classical.byContradiction fun q => h4 (.inl q)
     have := KO.1 this; have := x2.k; omega
   have tm : x.2.nxt.text ∈ mayS k := by
     have : (toR x.2).w.text ∈ mayS k := Classical.byContradiction fun q => h4 (.inr q)
     rwa [Vw om] at this
   rw [if_pos ⟨k4, tm⟩, Vw (s := x.2) om]
   cases hy : Yw t x.2 with
   | error a =>
     have := Vy ht x2.p hy
     rw [if_pos om]; exact this
   | ok y =>
     obtain ⟨y1, y2, y3, y4⟩ := Vx ht x2.p hy
     rw [y1, if_neg (Mg _), WH, ZU]
     simp only
     have hkd : ((toR y.2).w.kind = agK k) ↔ y.2.nxt.kind = kdOf k := by
       unfold agK kdOf
       rw [toR_kind]
       split
       ·exact (VE _).2.1
       ·split
        ·exact (VE _).2.2.1
        ·exact (VE _).2.2.2
     by_cases h6 : y.2.nxt.kind ≠ kdOf k ∨ (k = wFam ∧ famF fs y.2.nxt.text < 0)
     ·have h6' : (toR y.2).w.kind ≠ agK k ∨ (k = wFam ∧ famF fs (toR y.2).w.text < 0) := by
        rcases h6 with h6 | ⟨h6, h7⟩
        ·exact .inl fun q => h6 (hkd.1 q)
        ·by_cases hz : y.2.nxt.kind = kdOf k
         ·right; exact ⟨h6, by rw [Vw (by rw [hz, h6]; decide)]; exact h7⟩
         ·exact .inl fun q => hz (hkd.1 q)
      rw [if_pos h6, if_pos h6']
      exact Ut y2.w
     ·have hz : y.2.nxt.kind = kdOf k := Classical.byContradiction fun q => h6 (.inl q)
      have h6' : ¬ ((toR y.2).w.kind ≠ agK k ∨ (k = wFam ∧ famF fs (toR y.2).w.text < 0)) := by
        rintro (q | ⟨q1, q2⟩)
        ·exact q (hkd.2 hz)
        ·exact h6 (.inr ⟨q1, by rw [Vw (by rw [hz, q1]; decide)] at q2; exact q2⟩)
      rw [if_neg h6, if_neg h6']
      cases hw : Yw t y.2 with
      | error a => exact Vy ht y2.p hw
      | ok z =>
        obtain ⟨z1, z2, z3, _⟩ := Vx ht y2.p hw
        refine ⟨z1, ?_, z2, by simp only; omega⟩
        rw [← y4]
        simp only [ws4, List.mem_cons, List.not_mem_nil, or_false] at tin
        rcases tin with rfl | rfl | rfl | rfl
        ·show CR.tst fs (.nd wFam [] _ (toR y.2).w.text _) = _
         rw [Vw (by rw [hz]; decide), y4]; rfl
        ·show CR.tst fs (.nd Xk [] _ (if y.2.nxt.kind = 3 then y.2.nxt.str else y.2.nxt.text) _) = _
         rw [if_pos (show y.2.nxt.kind = 3 from hz), y4]; rfl
        ·show CR.tst fs (.nd YW [] _ (if y.2.nxt.kind = 3 then y.2.nxt.str else y.2.nxt.text) _) = _
         rw [if_pos (show y.2.nxt.kind = 3 from hz), y4]; rfl
        ·rw [y4]; rfl
end
section
variable {fs : List Fml} {t : List UInt8}
def relC (fs : List Fml) (t : List UInt8) (d : Nat) (x : Except Nat (Tst × Qst)) (r : CR × Ro) : Prop :=
 match x with | .ok y => r.2 = toR y.2 ∧ r.1.tst fs = y.1 ∧ QsOK t y.2 ∧ y.2.deep = d | .error p => r.2.bad = p
def relL (fs : List Fml) (t : List UInt8) (op : Tst → Tst → Tst) (d : Nat) (x : Except Nat (Tst × Qst)) (r : List CR × Ro) : Prop :=
 match x with | .ok y => r.2 = toR y.2 ∧ XA op (Ps fs r.1) = y.1 ∧ QsOK t y.2 ∧ y.2.deep = d | .error p => r.2.bad = p
theorem tsts_snoc (op : Tst → Tst → Tst) (l : List CR) (c : CR) : XA op (Ps fs (l ++ [c])) = if l = [] then c.tst fs else op (XA op (Ps fs l)) (c.tst fs) := by
 rw [PM, PM, List.map_append, List.map_cons, List.map_nil, foldT_snoc]
 cases l <;> simp
theorem Ji {k : Nat} {w : List UInt8} {s : Ro} (h : 0 ≤ s.bad) : isB k w s = false := by
 unfold isB
 rw [decide_eq_false om]; rfl
theorem Kj {s : Ro} {a : Int} (h : 0 ≤ s.bad) : YI s a = s := by unfold YI; rw [if_neg om]
theorem M5 (f : Nat) (l : List CR) {s : Ro} (h : 0 ≤ s.bad) : orsR fs t f l s = (l, s) := by
 cases f with
 | zero => unfold orsR; rw [Kj h]
 | succ f => rw [orsR, if_neg om]
theorem andsR_bad (f : Nat) (l : List CR) {s : Ro} (h : 0 ≤ s.bad) : X6 fs t f l s = (l, s) := by
 cases f with
 | zero => unfold X6; rw [Kj h]
 | succ f => rw [X6, if_neg om]
theorem testR_bad {s : Ro} (h : 0 ≤ s.bad) : Ux fs t s = (.nd s.w.text [] [] [] 0, s) := by
 unfold Ux; rw [if_pos h]
theorem factR_bad (f : Nat) {s : Ro} (h : 0 ≤ s.bad) : (Yf fs t f s).2 = s := by
 cases f with
 | zero => unfold Yf; exact Kj h
 | succ f => rw [Yf, Ji h, Ji h, testR_bad h]; simp
theorem condR_bad (f : Nat) {s : Ro} (h : 0 ≤ s.bad) : (YK fs t f s).2 = s := by
 cases f with
 | zero => unfold YK; exact Kj h
 | succ f => unfold YK; rw [M5 _ [] h]
theorem Nz (q : Qst) : (YI (toR q) (toR q).w.pos).bad = q.nxt.pos := by
 unfold YI; rw [if_pos (by simp [toR])]; rfl
theorem isF_neg {q : Qst} {w : List UInt8} (h : ¬ isF q w = true) : isF q w = false := by cases e : isF q w; rfl; exact absurd e h
theorem open_rel (ht : t.length ≤ 512) {q : Qst} (hq : QsOK t q) : match Qx t q with
   | .ok q' => ¬ 16 < (Zm t (toR q)).o + 1 ∧ ({ Zm t (toR q) with o := (Zm t (toR q)).o + 1 } : Ro) = toR q' ∧ QsOK t q' ∧ q'.deep = q.deep + 1
   | .error p => if 16 < (Zm t (toR q)).o + 1 then (q.nxt.pos : Int) = p else (Zm t (toR q)).bad = p := by
 have ho : (Zm t (toR q)).o = q.deep := YQ t _
 rw [ho]
 unfold Qx
 by_cases hd : 16 < q.deep + 1
 ·rw [if_pos hd]; simp only; rw [if_pos hd]; trivial
 ·rw [if_neg hd]
  cases hx : Yw t { q with deep := q.deep + 1 } with
  | error a =>
    have := Vy (s := { q with deep := q.deep + 1 }) ht hq.p hx
    rw [er_map]; simp only; rw [if_neg hd]
    have e : (Zm t (toR { q with deep := q.deep + 1 })).bad = (Zm t (toR q)).bad := by
      unfold Zm YI toR; simp only; split <;> rfl
    rw [← e]; exact this
  | ok x =>
    obtain ⟨x1, x2, x3, _⟩ := Vx (s := { q with deep := q.deep + 1 }) ht hq.p hx
    rw [WH]
    refine ⟨hd, ?_, x2, x3⟩
    rw [← x1]
    unfold Zm YI toR
    by_cases hw : (Xj t q.far).2.2 = true <;> simp [hw]
theorem condF_rel (ht : t.length ≤ 512) : ∀ f, (∀ q, QsOK t q → relC fs t q.deep (XC fs t f q) (Yf fs t f (toR q))) ∧
   (∀ l q, QsOK t q → relL fs t .and q.deep ((XC fs t f q).bind fun x => Qh fs t f (if l = [] then x.1 else .and (XA .and (Ps fs l)) x.1) x.2) (X6 fs t (f + 1) l (toR q))) ∧
   (∀ q, QsOK t q → relC fs t q.deep (XX fs t f q) (YF fs t f (toR q))) ∧
   (∀ l q, QsOK t q → relL fs t .or q.deep ((XX fs t f q).bind fun x => orsF fs t f (if l = [] then x.1 else .or (XA .or (Ps fs l)) x.1) x.2) (orsR fs t (f + 1) l (toR q))) ∧
   (∀ q, QsOK t q → relC fs t q.deep (UI fs t f q) (YK fs t f (toR q))) := by
 have ands : ∀ f, (∀ q, QsOK t q → relC fs t q.deep (XC fs t f q) (Yf fs t f (toR q))) → (∀ g, f = g + 1 → ∀ l q, QsOK t q → relL fs t .and q.deep ((XC fs t g q).bind fun x => Qh fs t g (if l = [] then x.1 else .and (XA .and (Ps fs l)) x.1) x.2) (X6 fs t (g + 1) l (toR q))) →
     ∀ l q, QsOK t q → relL fs t .and q.deep ((XC fs t f q).bind fun x => Qh fs t f (if l = [] then x.1 else .and (XA .and (Ps fs l)) x.1) x.2) (X6 fs t (f + 1) l (toR q)) := fun f hF hA l q hq => by
   rw [X6, if_pos (by simp [toR])]
   have h1 := hF q hq
   cases hx : XC fs t f q with
   | error p =>
     rw [hx] at h1
     have hb : (Yf fs t f (toR q)).2.bad = p := h1
     rw [Ji om, if_neg osi, Vp]; exact hb
   | ok x =>
     rw [hx] at h1
     obtain ⟨e1, e2, e3, e4⟩ := h1
     rw [ZU, e1]
     have ea : (if l = [] then x.1 else .and (XA .and (Ps fs l)) x.1) = XA .and (Ps fs (l ++ [(Yf fs t f (toR q)).1])) := by rw [tsts_snoc, e2]
     rw [ea]
     have hl : l ++ [(Yf fs t f (toR q)).1] ≠ [] := osi
     generalize l ++ [(Yf fs t f (toR q)).1] = l2 at *
     cases f with
     | zero => unfold XC at hx; cases hx
     | succ g =>
       rw [Qh, Jg e3.w odc]
       by_cases hi : isF x.2 wAnd = true
       ·rw [if_pos hi, if_pos hi, show isS t 110 wAnd (toR x.2) = Zm t (toR x.2) by unfold isS; rw [Jg e3.w odc, if_pos hi]]
        cases hy : Yw t x.2 with
        | error p =>
          have := Vy ht e3.p hy
          rw [Vp, andsR_bad _ _ om]; exact this
        | ok y =>
          obtain ⟨y1, y2, y3, _⟩ := Vx ht e3.p hy
          rw [ZU, y1]
          have := hA g rfl l2 y.2 y2
          rw [y3, e4] at this
          simp only [if_neg hl] at this; exact this
       ·rw [if_neg hi, if_neg hi]
        exact ⟨rfl, rfl, e3, e4⟩
 have ors : ∀ f, (∀ q, QsOK t q → relC fs t q.deep (XX fs t f q) (YF fs t f (toR q))) → (∀ g, f = g + 1 → ∀ l q, QsOK t q → relL fs t .or q.deep ((XX fs t g q).bind fun x => orsF fs t g (if l = [] then x.1 else .or (XA .or (Ps fs l)) x.1) x.2) (orsR fs t (g + 1) l (toR q))) →
     ∀ l q, QsOK t q → relL fs t .or q.deep ((XX fs t f q).bind fun x => orsF fs t f (if l = [] then x.1 else .or (XA .or (Ps fs l)) x.1) x.2) (orsR fs t (f + 1) l (toR q)) := fun f hT hO l q hq => by
   rw [orsR, if_pos (by simp [toR])]
   have h1 := hT q hq
   cases hx : XX fs t f q with
   | error p =>
     rw [hx] at h1
     have hb : (YF fs t f (toR q)).2.bad = p := h1
     rw [Ji om, if_neg osi, Vp]; exact hb
   | ok x =>
     rw [hx] at h1
     obtain ⟨e1, e2, e3, e4⟩ := h1
     rw [ZU, e1]
     have ea : (if l = [] then x.1 else .or (XA .or (Ps fs l)) x.1) = XA .or (Ps fs (l ++ [(YF fs t f (toR q)).1])) := by rw [tsts_snoc, e2]
     rw [ea]
     have hl : l ++ [(YF fs t f (toR q)).1] ≠ [] := osi
     generalize l ++ [(YF fs t f (toR q)).1] = l2 at *
     cases f with
     | zero => unfold XX at hx; cases hx
     | succ g =>
       rw [orsF, Jg e3.w odc]
       by_cases hi : isF x.2 wOr = true
       ·rw [if_pos hi, if_pos hi, show isS t 110 wOr (toR x.2) = Zm t (toR x.2) by unfold isS; rw [Jg e3.w odc, if_pos hi]]
        cases hy : Yw t x.2 with
        | error p =>
          have := Vy ht e3.p hy
          rw [Vp, M5 _ _ om]; exact this
        | ok y =>
          obtain ⟨y1, y2, y3, _⟩ := Vx ht e3.p hy
          rw [ZU, y1]
          have := hO g rfl l2 y.2 y2
          rw [y3, e4] at this
          simp only [if_neg hl] at this; exact this
       ·rw [if_neg hi, if_neg hi]
        exact ⟨rfl, rfl, e3, e4⟩
 intro f
 induction f with
 | zero =>
   have F0 : ∀ q, QsOK t q → relC fs t q.deep (XC fs t 0 q) (Yf fs t 0 (toR q)) := fun q hq => by unfold XC Yf; exact Nz q
   have T0 : ∀ q, QsOK t q → relC fs t q.deep (XX fs t 0 q) (YF fs t 0 (toR q)) := fun q hq => by unfold XX YF; exact Nz q
   exact ⟨F0, ands 0 F0 (fun g h => by cases h), T0, ors 0 T0 (fun g h => by cases h), fun q hq => by unfold UI YK; exact Nz q⟩
 | succ g ih =>
   obtain ⟨iF, iA, iT, iO, iC⟩ := ih
   have hF : ∀ q, QsOK t q → relC fs t q.deep (XC fs t (g + 1) q) (Yf fs t (g + 1) (toR q)) := fun q hq => by
     rw [XC, Yf, Jg hq.w odc, Ml hq.w hq.k odc]
     have ho := open_rel ht hq
     by_cases h1 : isF q wNot = true
     ·rw [if_pos h1, if_pos h1]
      cases hx : Qx t q with
      | error p =>
        rw [hx] at ho
        rw [Vp]
        simp only at ho
        by_cases hd : 16 < (Zm t (toR q)).o + 1
        ·rw [if_pos hd] at ho ⊢; exact ho
        ·rw [if_neg hd] at ho ⊢
         show (Yf fs t g { Zm t (toR q) with o := (Zm t (toR q)).o + 1 }).2.bad = p
         rw [factR_bad g (s := { Zm t (toR q) with o := (Zm t (toR q)).o + 1 }) (by simp only; omega)]; exact ho
      | ok x =>
        rw [hx] at ho
        obtain ⟨o1, o2, o3, o4⟩ := ho
        rw [if_neg o1, ZU, o2]
        have h2 := iF x o3
        cases hy : XC fs t g x with
        | error p => rw [hy] at h2; exact h2
        | ok y =>
          rw [hy] at h2
          obtain ⟨e1, e2, e3, e4⟩ := h2
          rw [WH, e1]
          refine ⟨rfl, ?_, ⟨e3.w, e3.p, e3.k⟩, by simp only; omega⟩
          show Tst.not (XA .or (Ps fs [(Yf fs t g (toR x)).1])) = _
          rw [← e2]; rfl
     ·rw [if_neg h1, if_neg h1]
      by_cases h2 : isF q [40] = true
      ·rw [if_pos h2, if_pos h2]
       cases hx : Qx t q with
       | error p =>
         rw [hx] at ho
         rw [Vp]
         simp only at ho
         by_cases hd : 16 < (Zm t (toR q)).o + 1
         ·rw [if_pos hd] at ho ⊢; exact ho
         ·rw [if_neg hd] at ho ⊢
          have hb : (YK fs t g { Zm t (toR q) with o := (Zm t (toR q)).o + 1 }).2 = { Zm t (toR q) with o := (Zm t (toR q)).o + 1 } := condR_bad g (by simp only; omega)
          simp only [hb]
          have hn : isB 103 [41] { Zm t (toR q) with o := (Zm t (toR q)).o + 1 } = false := Ji (by simp only; omega)
          unfold isS
          rw [hn]
          simp only [Bool.false_eq_true, if_false]
          rw [if_neg om]; exact ho
       | ok x =>
         rw [hx] at ho
         obtain ⟨o1, o2, o3, o4⟩ := ho
         rw [if_neg o1, ZU, o2]
         have h3 := iC x o3
         cases hy : UI fs t g x with
         | error p =>
           rw [hy] at h3
           have hb : (YK fs t g (toR x)).2.bad = p := h3
           rw [Vp]
           have hn : isB 103 [41] (YK fs t g (toR x)).2 = false := Ji om
           unfold isS
           simp only [hn, Bool.false_eq_true, if_false]
           rw [if_neg om]; exact hb
         | ok y =>
           rw [hy] at h3
           obtain ⟨e1, e2, e3, e4⟩ := h3
           rw [ZU]
           simp only [e1, Ml e3.w e3.k (show We 41 = false by decide)]
           have hdy : 1 ≤ y.2.deep := om
           by_cases h5 : isF y.2 [41] = true
           ·rw [h5]
            simp only [Bool.true_eq_false, and_false, if_false, if_true]
            rw [show isS t 103 [41] (toR y.2) = Zm t (toR y.2) by unfold isS; rw [Ml e3.w e3.k (show We 41 = false by decide), if_pos h5]]
            have eo : ∀ d, (Zm t (toR { y.2 with deep := d })) = { Zm t (toR y.2) with o := d } := fun d => by
              unfold Zm YI toR; by_cases hw : (Xj t y.2.far).2.2 = true <;> simp [hw]
            cases hz : Yw t { y.2 with deep := y.2.deep - 1 } with
            | error p =>
              have := Vy (s := { y.2 with deep := y.2.deep - 1 }) ht e3.p hz
              rw [eo] at this; exact this
            | ok z =>
              obtain ⟨z1, z2, z3, _⟩ := Vx (s := { y.2 with deep := y.2.deep - 1 }) ht e3.p hz
              rw [eo] at z1
              rw [WH]
              refine ⟨?_, ?_, z2, by simp only at z3 ⊢; omega⟩
              ·rw [← z1]; simp only; rw [YQ]; rfl
              ·show XA .or (Ps fs [(YK fs t g (toR x)).1]) = _
               rw [← e2]; rfl
           ·rw [isF_neg h5]
            simp only [Bool.false_eq_true, if_false, and_true]
            rw [show isS t 103 [41] (toR y.2) = toR y.2 by unfold isS; rw [Ml e3.w e3.k (show We 41 = false by decide), if_neg h5], if_pos (show (toR y.2).bad < 0 by simp [toR])]
            exact Ut e3.w
      ·rw [if_neg h2, if_neg h2]
       have := testF_rel (fs := fs) ht hq
       cases hx : Ju fs t q with
       | error p => rw [hx] at this; exact this
       | ok x => rw [hx] at this; exact this
   have hA := ands (g + 1) hF (fun g2 h => by cases h; exact iA)
   have hT : ∀ q, QsOK t q → relC fs t q.deep (XX fs t (g + 1) q) (YF fs t (g + 1) (toR q)) := fun q hq => by
     have h := iA [] q hq
     rw [XX]; unfold YF
     simp only [if_true] at h
     cases hx : (XC fs t g q).bind fun x => Qh fs t g x.1 x.2 with
     | error p => rw [hx] at h; exact h
     | ok x => rw [hx] at h; exact ⟨h.1, h.2.1, h.2.2.1, h.2.2.2⟩
   have hO := ors (g + 1) hT (fun g2 h => by cases h; exact iO)
   refine ⟨hF, hA, hT, hO, fun q hq => ?_⟩
   have h := iO [] q hq
   rw [UI]; unfold YK
   simp only [if_true] at h
   cases hx : (XX fs t g q).bind fun x => orsF fs t g x.1 x.2 with
   | error p => rw [hx] at h; exact h
   | ok x => rw [hx] at h; exact ⟨h.1, h.2.1, h.2.2.1, h.2.2.2⟩
end
end Go.Rt
set_option maxRecDepth 10000
namespace Go.Proofs.YtkmkbndcekklmaaGreatDoor
open Go Go.Sx Go.Rt Go.Proofs Tryz
theorem YX (a : Tst) : (Yc a).sz = 1 := by cases a <;> rfl
theorem YY (a : Tst) : (Yc a).memOK = true := by cases a <;> rfl
theorem YZ (a : Tst) : (Yc a).isAgg = false := by cases a <;> rfl
theorem Yr (g : Bool) (a : Tst) : strip g (Yc a) = Yc a := by cases a <;> cases g <;> rfl
section
variable (fs : List Fml) (t : List UInt8) (kr ko : Nat)
def CondK (f : Nat) : Prop := ∀ (s : Qst) (ver : Nat) (H : Heap) (n : Nat), QI t s → 4 * s.m t + 3 ≤ f → QdH fs t kr ko s ver H n →
 Zn prog 79 [.loc kr 0 0 0 []] H n (QdK fs t kr ko H n ((UI fs t f s).map fun x => (Yc x.1, x.2)))
def TermK (f : Nat) : Prop := ∀ (s : Qst) (ver : Nat) (H : Heap) (n : Nat), QI t s → 4 * s.m t + 2 ≤ f → QdH fs t kr ko s ver H n →
 Zn prog 119 [.loc kr 0 0 0 []] H n (QdK fs t kr ko H n ((XX fs t f s).map fun x => (Yc x.1, x.2)))
def FactK (f : Nat) : Prop := ∀ (s : Qst) (ver : Nat) (H : Heap) (n : Nat), QI t s → 4 * s.m t + 1 ≤ f → QdH fs t kr ko s ver H n →
 Zn prog 142 [.loc kr 0 0 0 []] H n (QdK fs t kr ko H n ((XC fs t f s).map fun x => (Yc x.1, x.2)))
end
theorem NQe0.eqs {P Q : Prop} (g : Imp P Q := by (try simp only [go_sem, seval, hR1, hszs, hszb, wdAV, g1, g2, hx, YX, YY, YZ, Yr]); exact Pm) : Imp P Q := g
theorem NQe0.inz {P Q : Prop} (g : Imp P Q := by refine Imp.up eqs ?_; (repeat refine Imp.pl ?_); exact Pm) : Imp P Q := g
set_option maxHeartbeats 1600000 in
open NQe0 in
theorem c_query_fact {fs : List Fml} (hfs : fs.length ≤ 1048576) {t : List UInt8} (ht : t.length ≤ 512) {kr ko : Nat} {f : Nat} (hF : FactK fs t kr ko f) (hC : CondK fs t kr ko f) : FactK fs t kr ko (f + 1) := fun s ver H n hI hm h => by
 have hR := h.r
 have hR1 := hR
 unfold qdO at hR1
 have hk := h.lr
 have hko := h.lo
 have hne := h.ne
 have hszs : (Zi fs).sz = 1 := rfl
 have hszb : ∀ b, (bys b).sz = 1 := fun _ => rfl
 have g1 : (kr = n) = False := by simp; omega
 have g2 : (n = kr) = False := by simp; omega
 have hx := hszs
 obtain ⟨r, hr⟩ : ∃ r, r = ((XC fs t (f + 1) s).map fun x => (Yc x.1, x.2)) := ⟨_, rfl⟩
 rw [← hr]
 simp only [XC] at hr
 refine QdK.fin hk hko hne ?_
 refine fw func142 ntmps142 results142 ?_
 refine rg zs [0] ?_
 refine bk fun K1 hK1 => ?_
 refine rk zs [0, 5] fun K V => ?_
 refine ck func120 ((Y8 fs t s kr ko ver wNot _ _ hR)) ?_
 apply V; clear V K
 refine Zb ?_ ?_ <;> intro hb
 ·simp only [if_pos hb] at hr
  refine rk zs [0] fun K V => ?_
  refine cK func153 (Kt fs t s kr ko ver ht hI.far (hI.outs ht) (by have := hI.deep; omega) _ _ h) ?_ ?_
  ·rintro q9 H' n' hc
   exact hc.up (fun p9 he => by rw [Yj he] at hr; exact hr) (Nat.le_refl _) (fun k _ _ _ => rfl)
  rintro rr H1 n9 hc
  obtain ⟨x1, v1, he, h1, rfl, hl1⟩ := hc.got hk hko hne
  obtain ⟨_, hx1, hy⟩ := map_ok he
  cases hy
  obtain ⟨hI1, hm1, hd1⟩ := J7 ht hI (YG hb) hx1
  simp only [hx1, ZU] at hr
  refine nz ?_
  apply V; clear V K
  refine rk zs [0, 3] fun K V => ?_
  refine cK func142 (hF x1 v1 _ _ hI1 (by omega) h1) ?_ ?_
  ·rintro q9 H' n' hc
   exact hc.up (fun p9 he => by rw [Yj he] at hr; exact hr) (Nat.le_refl _) (fun k _ e2 e3 => hl1 k e2 e3)
  rintro rr H2 n9 hc
  obtain ⟨_, v2, he, h2, rfl, hl2⟩ := hc.got hk hko hne
  obtain ⟨x2, hx2, hy⟩ := map_ok he
  cases hy
  have hg2 := (Vd ht f).2.2.2.2 x1 x2.1 x2.2 hI1 hx2
  simp only [hx2, WH] at hr
  have hR1 := h2.r
  unfold qdO at hR1
  have hx : IntKind.i64.wrap ((x2.2.deep : Int) - 1) = ((x2.2.deep - 1 : Nat) : Int) := by have e1 := hg2.2.2; have e2 := hI.deep; rw [w64 (by omega) (by omega)]; omega
  refine nz ?_
  apply V; clear V K
  refine rg zs [3] ?_
  refine rg zs [2] ?_
  refine ar ?_
  exact QdE.ok (s := { x2.2 with deep := x2.2.deep - 1 }) hr ⟨hk, hko, hne, Pk _ _ _, by rw [Pi _ _ hne.symm, Pi _ _ (by omega)]; exact h2.o⟩ hko (fun k e1 e2 e3 => by rw [Pi _ _ e2, Pi _ _ (by omega), hl2 k e2 e3]; exact hl1 k e2 e3) (.fn .nil (.cons (WU ((Pi _ _ (by omega)).trans (Pk _ _ _)) (by omega) (.kl (Xb _ _))) .nil))
 rw [if_neg (by rw [hb]; simp)] at hr
 refine rk zs [0, 20] fun K V => ?_
 refine ck func120 ((Y8 fs t s kr ko ver [40] _ _ hR)) ?_
 apply V; clear V K
 refine Zb ?_ ?_ <;> intro hb
 ·simp only [if_pos hb] at hr
  refine rk zs [0] fun K V => ?_
  refine cK func153 (Kt fs t s kr ko ver ht hI.far (hI.outs ht) (by have := hI.deep; omega) _ _ h) ?_ ?_
  ·rintro q9 H' n' hc
   exact hc.up (fun p9 he => by rw [Yj he] at hr; exact hr) (Nat.le_refl _) (fun k _ _ _ => rfl)
  rintro rr H1 n9 hc
  obtain ⟨x1, v1, he, h1, rfl, hl1⟩ := hc.got hk hko hne
  obtain ⟨_, hx1, hy⟩ := map_ok he
  cases hy
  obtain ⟨hI1, hm1, hd1⟩ := J7 ht hI (YG hb) hx1
  simp only [hx1, ZU] at hr
  refine nz ?_
  apply V; clear V K
  refine rk zs [0, 4] fun K V => ?_
  refine cK func79 (hC x1 v1 _ _ hI1 (by omega) h1) ?_ ?_
  ·rintro q9 H' n' hc
   exact hc.up (fun p9 he => by rw [Yj he] at hr; exact hr) (Nat.le_refl _) (fun k _ e2 e3 => hl1 k e2 e3)
  rintro rr H2 n9 hc
  obtain ⟨_, v2, he, h2, rfl, hl2⟩ := hc.got hk hko hne
  obtain ⟨x2, hx2, hy⟩ := map_ok he
  cases hy
  have hg2 := (Vd ht f).1 x1 x2.1 x2.2 hI1 hx2
  simp only [hx2, ZU] at hr
  have hR1 := h2.r
  unfold qdO at hR1
  have hx : IntKind.i64.wrap ((x2.2.deep : Int) - 1) = ((x2.2.deep - 1 : Nat) : Int) := by have e1 := hg2.2.2; have e2 := hI.deep; rw [w64 (by omega) (by omega)]; omega
  refine nz ?_
  apply V; clear V K
  refine rg zs [0, 4] ?_
  refine Za fun K2 hK2 => ?_
  refine rk zs [0, 4, 36] fun K V => ?_
  refine ck func120 ((Y8 fs t { x2.2 with deep := x2.2.deep - 1 } kr ko v2 [41] _ _ (Pk _ _ _))) ?_
  apply V; clear V K
  refine Zb ?_ ?_ <;> intro hb
  ·have hb1 : isF { x2.2 with deep := x2.2.deep - 1 } [41] = false := by simpa using hb
   rw [if_neg (by show ¬ isF { x2.2 with deep := x2.2.deep - 1 } [41] = true; rw [hb1]; simp), er_map] at hr
   refine rk1 zs [0, 4] fun K V => ?_
   refine Zt (args' := [.int .i64 x2.2.nxt.pos]) func80 rfl rfl rfl (Ya x2.2.nxt.pos _ _) ?_ ?_
   ·rintro rr H' n' ⟨rfl, rfl, hz⟩
    cases hz
   rintro q9 H' n' ⟨rfl, rfl, hz⟩
   cases hz
   exact QdE.err hr (Nat.le_refl _) (fun k e1 e2 e3 => by rw [Pi _ _ e2, hl2 k e2 e3]; exact hl1 k e2 e3)
  have hb1 : isF { x2.2 with deep := x2.2.deep - 1 } [41] = true := by simpa using hb
  rw [if_pos (show isF x2.2 [41] = true from hb1)] at hr
  refine ak ?_
  apply hK2
  refine rk zs [4] fun K V => ?_
  refine Zt (args' := [.loc kr 0 0 0 []]) func121 rfl rfl rfl (Yo fs t { x2.2 with deep := x2.2.deep - 1 } kr ko v2 ht hg2.1.far (hg2.1.outs ht) _ _ ?_) ?_ ?_
  ·exact ⟨hk, hko, hne, Pk _ _ _, by rw [Pi _ _ hne.symm]; exact h2.o⟩
  rotate_left
  ·rintro q9 H' n' hc
   exact hc.up (fun p9 he => by rw [Yj he] at hr; exact hr) (Nat.le_refl _) (fun k e1 e2 e3 => by rw [Pi _ _ e2, hl2 k e2 e3]; exact hl1 k e2 e3)
  rintro rr H3 n9 hc
  obtain ⟨_, v3, he, h3, rfl, hl3⟩ := hc.got hk hko hne
  obtain ⟨x3, hx3, hy⟩ := map_ok he
  cases hy
  simp only [hx3, WH] at hr
  refine nz ?_
  apply V; clear V K
  refine rg zs [2] ?_
  refine ar ?_
  exact QdE.ok hr h3 hko (fun k e1 e2 e3 => by rw [hl3 k e2 e3, Pi _ _ e2, hl2 k e2 e3]; exact hl1 k e2 e3) (.kl (Xb _ _))
 rw [if_neg (by rw [hb]; simp)] at hr
 refine ak ?_
 apply hK1
 refine rk zs [2] fun K V => ?_
 refine cK func155 (c_query_test fs hfs t s kr ko ver ht hI _ _ h) ?_ ?_
 ·rintro q9 H' n' hc
  exact hc.up (fun p9 he => by rw [he] at hr; exact hr) (Nat.le_refl _) (fun k _ _ _ => rfl)
 rintro rr H1 n9 hc
 obtain ⟨s4, v1, he, h1, rfl, hl1⟩ := hc.got hk hko hne
 rw [he] at hr
 obtain ⟨x4, hx4, hy⟩ := map_ok he
 cases hy
 refine nz ?_
 apply V; clear V K
 refine ar ?_
 exact QdE.ok hr h1 hko (fun k e1 e2 e3 => hl1 k e2 e3) (.kl (Xb _ _))
theorem NQf0.eqs {P Q : Prop} (g : Imp P Q := by (try simp only [go_sem, seval, hszs, hszb, YX, YY, YZ, Yr, hav1, hav2, hav3, hav4]); exact Pm) : Imp P Q := g
set_option maxHeartbeats 1600000 in
open NQf0 NY in
theorem c_query_term {fs : List Fml} {t : List UInt8} (ht : t.length ≤ 512) {kr ko : Nat} : ∀ {f : Nat}, (∀ g, g < f → FactK fs t kr ko g) → TermK fs t kr ko f := fun {f} hF s ver H n hI hm h => by
 obtain ⟨f, rfl⟩ : ∃ q, f = q + 1 := ⟨f - 1, om⟩
 have hR := h.r
 have hR1 := hR
 unfold qdO at hR1
 have hk := h.lr
 have hko := h.lo
 have hne := h.ne
 have hszs : (Zi fs).sz = 1 := rfl
 have hszb : ∀ b, (bys b).sz = 1 := fun _ => rfl
 have hav1 := hszs
 have hav2 := hszs
 have hav3 := hszs
 have hav4 := hszs
 obtain ⟨r, hr⟩ : ∃ r, r = ((XX fs t (f + 1) s).map fun x => (Yc x.1, x.2)) := ⟨_, rfl⟩
 rw [← hr]
 simp only [XX] at hr
 refine QdK.fin hk hko hne ?_
 refine fw func119 ntmps119 results119 ?_
 refine kcu ?_
 refine rk zs [0, 3] fun K V => ?_
 refine cK func142 (hF f om s ver _ _ hI om h) ?_ ?_
 ·exact kaU
 rintro rr H1 n9 hc
 obtain ⟨_, v1, he, h1, rfl, hl1⟩ := hc.got hk hko hne
 obtain ⟨x1, hx1, hy⟩ := map_ok he
 cases hy
 have hg1 := (Vd ht f).2.2.2.2 s x1.1 x1.2 hI hx1
 have hm1 := hg1.2.1
 simp only [hx1, ZU] at hr
 refine nz ?_
 refine kas ?_
 refine bk fun K1 hK1 => ?_
 refine Zp (fun T' H' n' => ∃ (g : Nat) (b : Tst) (s1 : Qst) (v1 : Nat) (av : AV) (j : Nat), r = (Qh fs t g b s1).map (fun x => (Yc x.1, x.2)) ∧ 4 * s1.m t + 1 ≤ g ∧ g ≤ f ∧ QI t s1 ∧ T' = tl [(0, .loc kr 0 0 0 []), (3, av)] ∧ QdH fs t kr ko s1 v1 H' n' ∧ (∀ H2 : Heap, (∀ k, n ≤ k → k < n' → H2 k = H' k) → Frz H2 n av (Yc b)) ∧ (av.sz = 1 ∧ av.memOK = true ∧ av.isAgg = false ∧ ∀ g, strip g av = av) ∧ (∀ k, k < n → k ≠ kr → k ≠ ko → H' k = H k) ∧ n' = n + 2 * j ∧ j + s1.m t ≤ s.m t) (fun _ _ n' => 2 * s.m t + n + 2 - n') ?_ ?_
 ·exact kbk
 rintro T1 H1 n1 ⟨g, b, s1, v1, av, j, hr, hmg, hgf, hI1, rfl, hQ, hfz, ⟨hav1, hav2, hav3, hav4⟩, hlow, rfl, hj⟩
 obtain ⟨g, rfl⟩ : ∃ q, g = q + 1 := ⟨g - 1, om⟩
 simp only [Qh] at hr
 have g1 : (n + 2 * j = n + 2 * j + 1) = False := osi
 have g2 : (n + 2 * j + 1 = n + 2 * j) = False := osi
 refine Za fun K2 hK2 => ?_
 refine rc zs [0, 3, 9] func120 ((Y8 fs t s1 kr ko v1 wAnd _ _ hQ.r)) ?_
 refine Zb ?_ ?_ <;> intro hb
 ·rw [if_pos hb] at hr
  refine kaQ ?_
  refine kbM ?_
  refine rk zs [0, 3] fun K V => ?_
  refine cK func121 (Yo fs t s1 kr ko v1 ht hI1.far (hI1.outs ht) _ _ hQ) ?_ ?_
  ·exact kcN
  rintro rr H2 n9 hc
  obtain ⟨_, v2, he, h2, rfl, hl2⟩ := hc.got om om hne
  obtain ⟨x2, hx2, hy⟩ := map_ok he
  cases hy
  have ht2 := YC ht hI1 (YG hb) (w := x2.1) (s' := x2.2) hx2
  have hI2 := ht2.1.1
  have hm2 := ht2.2.1
  simp only [hx2, ZU] at hr
  refine nz ?_
  refine kas ?_
  refine Zf zs [0, 4, 5] fun K V => ?_
  refine ka6 ?_
  repeat refine peel ?_
  refine cK func142 (hF g om x2.2 v2 _ _ hI2 om h2) ?_ ?_
  ·exact kb5
  rintro rr H3 n9 hc
  obtain ⟨_, v3, he, h3, rfl, hl3⟩ := hc.got om om hne
  obtain ⟨x3, hx3, hy⟩ := map_ok he
  cases hy
  have hg3 := (Vd ht g).2.2.2.2 x2.2 x3.1 x3.2 hI2 hx3
  have hm3 := hg3.2.1
  simp only [hx3, ZU] at hr
  refine ka6 ?_
  refine kad ?_
  refine rg1 zs [0, 3] ?_
  refine ⟨⟨g, .and b x3.1, x3.2, v3, _, j + 1, hr, om, om, hg3.1, rfl, ?_, ?_, ⟨rfl, rfl, rfl, fun g => by cases g <;> rfl⟩, ?_, om, om⟩, om⟩
  ·exact h3.low (fun k hk9 => by simp only [Pj]; (repeat rw [if_neg om])) om
  ·exact kav
  ·exact kcc
 rw [if_neg (by rw [hb]; simp), WH] at hr
 refine ax ?_
 apply hK1
 refine kal ?_
 exact QdE.ok hr hQ hko hlow (hfz _ (fun _ _ _ => rfl))
set_option maxHeartbeats 1600000 in
open NQf0 NY in
theorem c_query_cond {fs : List Fml} {t : List UInt8} (ht : t.length ≤ 512) {kr ko : Nat} : ∀ {f : Nat}, (∀ g, g < f → TermK fs t kr ko g) → CondK fs t kr ko f := fun {f} hF s ver H n hI hm h => by
 obtain ⟨f, rfl⟩ : ∃ q, f = q + 1 := ⟨f - 1, om⟩
 have hR := h.r
 have hR1 := hR
 unfold qdO at hR1
 have hk := h.lr
 have hko := h.lo
 have hne := h.ne
 have hszs : (Zi fs).sz = 1 := rfl
 have hszb : ∀ b, (bys b).sz = 1 := fun _ => rfl
 have hav1 := hszs
 have hav2 := hszs
 have hav3 := hszs
 have hav4 := hszs
 obtain ⟨r, hr⟩ : ∃ r, r = ((UI fs t (f + 1) s).map fun x => (Yc x.1, x.2)) := ⟨_, rfl⟩
 rw [← hr]
 simp only [UI] at hr
 refine QdK.fin hk hko hne ?_
 refine fw func79 ntmps79 results79 ?_
 refine kcu ?_
 refine rk zs [0, 3] fun K V => ?_
 refine cK func119 (hF f om s ver _ _ hI om h) ?_ ?_
 ·exact kaU
 rintro rr H1 n9 hc
 obtain ⟨_, v1, he, h1, rfl, hl1⟩ := hc.got hk hko hne
 obtain ⟨x1, hx1, hy⟩ := map_ok he
 cases hy
 have hg1 := (Vd ht f).2.2.1 s x1.1 x1.2 hI hx1
 have hm1 := hg1.2.1
 simp only [hx1, ZU] at hr
 refine nz ?_
 refine kas ?_
 refine bk fun K1 hK1 => ?_
 refine Zp (fun T' H' n' => ∃ (g : Nat) (b : Tst) (s1 : Qst) (v1 : Nat) (av : AV) (j : Nat), r = (orsF fs t g b s1).map (fun x => (Yc x.1, x.2)) ∧ 4 * s1.m t + 2 ≤ g ∧ g ≤ f ∧ QI t s1 ∧ T' = tl [(0, .loc kr 0 0 0 []), (3, av)] ∧ QdH fs t kr ko s1 v1 H' n' ∧ (∀ H2 : Heap, (∀ k, n ≤ k → k < n' → H2 k = H' k) → Frz H2 n av (Yc b)) ∧ (av.sz = 1 ∧ av.memOK = true ∧ av.isAgg = false ∧ ∀ g, strip g av = av) ∧ (∀ k, k < n → k ≠ kr → k ≠ ko → H' k = H k) ∧ n' = n + 2 * j ∧ j + s1.m t ≤ s.m t) (fun _ _ n' => 2 * s.m t + n + 2 - n') ?_ ?_
 ·exact kbk
 rintro T1 H1 n1 ⟨g, b, s1, v1, av, j, hr, hmg, hgf, hI1, rfl, hQ, hfz, ⟨hav1, hav2, hav3, hav4⟩, hlow, rfl, hj⟩
 obtain ⟨g, rfl⟩ : ∃ q, g = q + 1 := ⟨g - 1, om⟩
 simp only [orsF] at hr
 have g1 : (n + 2 * j = n + 2 * j + 1) = False := osi
 have g2 : (n + 2 * j + 1 = n + 2 * j) = False := osi
 refine Za fun K2 hK2 => ?_
 refine rc zs [0, 3, 9] func120 ((Y8 fs t s1 kr ko v1 wOr _ _ hQ.r)) ?_
 refine Zb ?_ ?_ <;> intro hb
 ·rw [if_pos hb] at hr
  refine kaQ ?_
  refine kbM ?_
  refine rk zs [0, 3] fun K V => ?_
  refine cK func121 (Yo fs t s1 kr ko v1 ht hI1.far (hI1.outs ht) _ _ hQ) ?_ ?_
  ·exact kcN
  rintro rr H2 n9 hc
  obtain ⟨_, v2, he, h2, rfl, hl2⟩ := hc.got om om hne
  obtain ⟨x2, hx2, hy⟩ := map_ok he
  cases hy
  have ht2 := YC ht hI1 (YG hb) (w := x2.1) (s' := x2.2) hx2
  have hI2 := ht2.1.1
  have hm2 := ht2.2.1
  simp only [hx2, ZU] at hr
  refine nz ?_
  refine kas ?_
  refine Zf zs [0, 4, 5] fun K V => ?_
  refine ka6 ?_
  repeat refine peel ?_
  refine cK func119 (hF g om x2.2 v2 _ _ hI2 om h2) ?_ ?_
  ·exact kb5
  rintro rr H3 n9 hc
  obtain ⟨_, v3, he, h3, rfl, hl3⟩ := hc.got om om hne
  obtain ⟨x3, hx3, hy⟩ := map_ok he
  cases hy
  have hg3 := (Vd ht g).2.2.1 x2.2 x3.1 x3.2 hI2 hx3
  have hm3 := hg3.2.1
  simp only [hx3, ZU] at hr
  refine ka6 ?_
  refine kad ?_
  refine rg1 zs [0, 3] ?_
  refine ⟨⟨g, .or b x3.1, x3.2, v3, _, j + 1, hr, om, om, hg3.1, rfl, ?_, ?_, ⟨rfl, rfl, rfl, fun g => by cases g <;> rfl⟩, ?_, om, om⟩, om⟩
  ·exact h3.low (fun k hk9 => by simp only [Pj]; (repeat rw [if_neg om])) om
  ·exact kav
  ·exact kcc
 rw [if_neg (by rw [hb]; simp), WH] at hr
 refine ax ?_
 apply hK1
 refine kal ?_
 exact QdE.ok hr hQ hko hlow (hfz _ (fun _ _ _ => rfl))
theorem LJ {fs : List Fml} (hfs : fs.length ≤ 1048576) {t : List UInt8} (ht : t.length ≤ 512) {kr ko : Nat} : ∀ f, (∀ g, g ≤ f → FactK fs t kr ko g) ∧ (∀ g, g ≤ f → TermK fs t kr ko g) ∧ ∀ g, g ≤ f → CondK fs t kr ko g
 | 0 => by
   refine ⟨fun g hg => ?_, fun g hg => ?_, fun g hg => ?_⟩ <;> (intro s ver H n hI hm h; omega)
 | f + 1 => by
   obtain ⟨h1, h2, h3⟩ := LJ hfs ht f
   refine ⟨fun g hg => ?_, fun g hg => ?_, fun g hg => ?_⟩
   ·rcases Nat.lt_or_ge g (f + 1) with q | q
    ·exact h1 g om
    ·obtain rfl : g = f + 1 := om
     exact c_query_fact hfs ht (h1 f (Nat.le_refl _)) (h3 f (Nat.le_refl _))
   ·exact c_query_term ht fun q hq => h1 q om
   ·exact c_query_cond ht fun q hq => h2 q om
structure JD (k : Nat) (a b c d : AV) (H : Heap) : Prop where
 c1 : H k = some (.arr 0 1 [a])
 c2 : H (k + 1) = some (.arr 0 1 [b])
 c3 : H (k + 2) = some (.arr 0 1 [c])
 c4 : H (k + 3) = some (.arr 0 1 [d])
 sz : a.sz = 1 ∧ b.sz = 1 ∧ c.sz = 1 ∧ d.sz = 1
open N0 in
theorem QP {k : Nat} {H : Heap} {n : Nat} : Wv prog 77 [.loc k 0 0 0 [], .loc (k + 1) 0 0 0 [], .loc (k + 2) 0 0 0 [], .loc (k + 3) 0 0 0 []] .ret H n (fun m' H' n' => m' = .ret ∧ H' = H ∧ n' = n) := by
 refine Pf zs [0, 1, 2, 3, 7] 0 func77 rfl ntmps77 (congrArg Array.toList results77) osi rfl (by show _ < _; decide) fun K V => ?_
 refine ns ?_
 refine kad ?_
 refine kbM ?_
 refine rg zs [0, 1, 2, 3, 7, 9] ?_
 refine Zb ?_ ?_ <;> intro hb
 ·refine rg1 zs [] ?_
  trivial
 exact kaJ
theorem NQg0.eqs {P Q : Prop} (g : Imp P Q := by (try simp only [go_sem, seval, h1, h2, h3, h4, z1, z2, z3, z4, g1, g2, g3, g4, g5, g6, g7, g8, g9, f1, f2, f3, f4, f5]); exact Pm) : Imp P Q := g
open NQg0 NY in
theorem Xu {k : Nat} {a b c d : AV} (p : Nat) {H : Heap} {n : Nat} (hk : k + 3 < n) (h : JD k a b c d H) : Wv prog 77 [.loc k 0 0 0 [], .loc (k + 1) 0 0 0 [], .loc (k + 2) 0 0 0 [], .loc (k + 3) 0 0 0 []] (.pan (UJ p)) H n (fun m' H' n' => m' = .ret ∧ n ≤ n' ∧ JD k .nilf (.str []) (.int .i64 p) (.bool false) H' ∧ ∀ j, j < k → H' j = H j) := by
 unfold UJ
 have h1 := h.c1
 have h2 := h.c2
 have h3 := h.c3
 have h4 := h.c4
 obtain ⟨z1, z2, z3, z4⟩ := h.sz
 have g1 : (k = n) = False := oz
 have g2 : (k + 1 = n) = False := oz
 have g3 : (k + 2 = n) = False := oz
 have g4 : (k + 3 = n) = False := oz
 have g5 : (k + 1 = k) = False := osi
 have g6 : (k + 2 = k) = False := osi
 have g7 : (k + 3 = k) = False := osi
 have g8 : (k + 2 = k + 1) = False := osi
 have g9 : (k + 3 = k + 1) = False := osi
 have f1 : (k + 3 = k + 2) = False := osi
 have f2 : (n = k) = False := oz
 have f3 : (n = k + 1) = False := oz
 have f4 : (n = k + 2) = False := oz
 have f5 : (n = k + 3) = False := oz
 refine Pf zs [0, 1, 2, 3, 7] 0 func77 rfl ntmps77 (congrArg Array.toList results77) osi rfl (by show _ < _; decide) fun K V => ?_
 refine ns ?_
 refine kad ?_
 refine kbM ?_
 refine rg zs [0, 1, 2, 3, 7, 9] ?_
 refine Zb ?_ ?_ <;> intro hb
 ·exact kaJ
 refine rg zs [0, 1, 2, 3, 7, 11, 12] ?_
 refine Zb ?_ ?_ <;> intro hb
 ·refine rg zs [0, 1, 2, 3, 5] ?_
  refine dx1 zs [] [.q, .q, .w [0, 1], .w [0, 1], .w [], .w []] [0, 1, 2, 3, 4, 5] [0, 1, 2, 3, 4, 5] fun K V => ?_
  refine kas ?_
  refine ns ?_
  refine ⟨om, ⟨by simp [Heap.put], by simp [Heap.put], by simp [Heap.put], by simp [Heap.put], rfl, rfl, rfl, rfl⟩, fun j hj => ?_⟩
  try simp only [Pj]
  (repeat rw [if_neg om])
 exact kaJ
def J5 : Except Nat (Tst × List UInt8) → AV
 | .ok x => .tup [Yc x.1, .str x.2, .int .i64 0, .bool true]
 | .error p => .tup [.nilf, .str [], .int .i64 p, .bool false]
def NoPan (Q : QK) : QK := fun e T H n => match e with | .pan _ => False | e => Q e T H n
theorem awp_noPan {P : Program} {N : Nat} {code : Code} {T : Nat → AV} {H : Heap} {n : Nat} {Q : QK} (h : awp P N code T H n (NoPan Q)) : awp P N code T H n Q :=
 h.mono fun e _ _ _ hq => by cases e <;> first | exact hq | exact hq.elim
def qst0 : Qst := ⟨0, ⟨0, 0, [], 0, []⟩, [], 0⟩
theorem step_QI {t : List UInt8} (ht : t.length ≤ 512) {s : Qst} (h : VW t qst0 = .ok s) : QI t s := by
 unfold VW at h
 obtain ⟨x, hx, hy⟩ := map_ok h
 obtain ⟨g1, g2, g3, g4, g5⟩ := Uu ht (Nat.zero_le _) (w := x.1) (q := x.2) hx
 subst hy
 refine ⟨g2, ?_, Nat.zero_le _, fun w hw => (by cases hw), g5⟩
 show ([] : List Wd).length + _ ≤ _
 unfold Qst.m
 simp only [List.length_nil]
 split <;> omega
theorem qi_mle {t : List UInt8} {s : Qst} (h : QI t s) : s.m t ≤ t.length + 1 := by have := h.out; omega
theorem JD.on {k : Nat} {a b c d : AV} {H H' : Heap} (h : JD k a b c d H) (hl : ∀ j, k ≤ j → j < k + 4 → H' j = H j) : JD k a b c d H' :=
 ⟨(hl _ om om).trans h.c1, (hl _ om om).trans h.c2, (hl _ om om).trans h.c3, (hl _ om om).trans h.c4, h.sz⟩
theorem NQg1.eqs {P Q : Prop} (g : Imp P Q := by (try simp only [go_sem, seval, hszs, hags, hmos, Nat.add_assoc, f1, f2, f3, f4]); exact Pm) : Imp P Q := g
set_option maxHeartbeats 3200000 in
open NQg1 NY in
theorem Un (fs : List Fml) (hfs : fs.length ≤ 1048576) (t : List UInt8) (H : Heap) (n : Nat) : Ret prog 51 [Zi fs, .str t] H n (J5 (WF fs t)) H n := by
 have hszs : (Zi fs).sz = 1 := rfl
 have hags : (Zi fs).isAgg = true := rfl
 have hmos : (Zi fs).memOK = true := rfl
 have hR1 := hszs
 have c1 := hszs
 have c2 := hszs
 have hB := hszs
 have hO1 := hszs
 have hnth := hszs
 have hx := hszs
 obtain ⟨r, hr⟩ : ∃ r, r = WF fs t := ⟨_, rfl⟩
 rw [← hr]
 unfold WF at hr
 have f1 : (n = n + 1) = False := osi
 have f2 : (n = n + 2) = False := osi
 have f3 : (n = n + 3) = False := osi
 have f4 : (n = n + 4) = False := osi
 refine Ret.fin ?_
 refine Pe func51 rfl ntmps51 (congrArg Array.toList results51) osi ?_
 simp only [go_sem]
 refine awpD_reg zs [1, 2, 4, 5, 6, 7] fun K V => ?_
 refine nz ?_
 refine kas ?_
 refine awpD_seq_k fun K1 hK1 => ?_
 refine rg zs [1, 2, 4, 5, 6, 7, 13] ?_
 refine Zb ?_ ?_ <;> intro hb
 ·have hb8 : 512 < t.length := ott
  rw [if_pos hb8] at hr
  refine rg zs [4, 5, 6, 7] ?_
  refine ar ?_
  try simp only [NoPan, FinD]
  exact ⟨_, rfl, fun k hk => onn, by rw [hr]; exact .kl ⟨trivial, trivial, trivial, trivial, trivial⟩⟩
 have hb8 : ¬ 512 < t.length := otf
 rw [if_neg hb8] at hr
 refine kay ?_
 refine awpD_def zs [1, 2, 4, 5, 6, 7] 1 rfl trivial fun K V => ?_
 refine ns ?_
 refine ⟨⟨_, func77, rfl, rfl⟩, ?_⟩
 refine nz ?_
 refine kas ?_
 refine ZO (fun H' n' => H' n = some (.arr 0 1 [Zi fs]) ∧ JD (n + 1) .nilf (.str []) (.int .i64 0) (.bool false) H' ∧ (∀ k, k < n → H' k = H k) ∧ n' = n + 5) ⟨by simp [Heap.put, Zi], ⟨by simp [Heap.put], by simp [Heap.put], by simp [Heap.put], by simp [Heap.put], rfl, rfl, rfl, rfl⟩, fun k hk => oh, om⟩ fun H5 n5 ⟨r1, hC, hl5, hn5⟩ => ?_
 subst hn5
 refine Zf zs [4, 5, 6, 7, 8] fun K V => ?_
 try simp only [go_sem, seval, hszs, hags, hmos, Nat.add_assoc, f1, f2, f3, f4, r1]
 refine kad ?_
 refine Yq (n + 5) 5 (ver := 0) (e := 10) (els := [.agg [Zi fs, .str t, .int .i64 0, .agg [.int .i64 0, .int .i64 0, .str [], .int .i64 0, .nilsl], .nilsl, .int .i64 0]]) (els' := [.agg [Zi fs, .str t, .int .i64 0, .agg [.int .i64 0, .int .i64 0, .str [], .int .i64 0, .nilsl], .osl (n + 6) 0 0 0, .int .i64 0]]) (by simp [Heap.put, Zi]) ⟨Adp.agg ⟨.refl _ _, .refl _ _, .refl _ _, .refl _ _, Adp.nilsl _, .refl _ _, trivial⟩, trivial⟩ ?_
 refine WP (n + 5) (ver := 0) (e := 10) (els := [.agg [Zi fs, .str t, .int .i64 0, .agg [.int .i64 0, .int .i64 0, .str [], .int .i64 0, .nilsl], .osl (n + 6) 0 0 0, .int .i64 0]]) (els' := [.agg [Zi fs, .str t, .int .i64 0, .agg [.int .i64 0, .int .i64 0, .str [], .int .i64 0, .sl 1 []], .osl (n + 6) 0 0 0, .int .i64 0]]) (Pk _ _ _) ⟨Wk.agg ⟨.refl _, .refl _, .refl _, Wk.agg ⟨.refl _, .refl _, .refl _, .refl _, .nilsl _, trivial⟩, .refl _, .refl _, trivial⟩, trivial⟩ ?_
 refine ZO (fun H' n' => QdH fs t (n + 5) (n + 6) qst0 0 H' n' ∧ JD (n + 1) .nilf (.str []) (.int .i64 0) (.bool false) H' ∧ (∀ k, k < n → H' k = H k) ∧ n' = n + 7) ⟨⟨om, om, om, by simp [Heap.put, qdO, qst0, Zi, wdAV, bys], by simp [Heap.put, outO, qst0]⟩, hC.on (fun j a1 a2 => oh), fun k hk => ohx (hl5 k hk), om⟩ fun H6 n6 ⟨hQ, hC, hl6, hn6⟩ => ?_
 subst hn6
 refine rk zs [4, 5, 6, 7, 8] fun K V => ?_
 refine cK func78 (Kr fs t qst0 (n + 5) (n + 6) 0 om (Nat.zero_le _) _ _ hQ) ?_ ?_
 ·rintro q9 H9 n9 hc
  obtain ⟨p, he, rfl, hn, hl⟩ := hc.pan
  have hr := hr.trans (bind_err (Yj he))
  refine (Xu (k := n + 1) p om (hC.on fun j a1 a2 => hl _ om om om)).mono ?_
  rintro m' H' n' ⟨rfl, q1, q2, q3⟩
  have c1 := q2.c1
  have c2 := q2.c2
  have c3 := q2.c3
  have c4 := q2.c4
  simp only [FinA, go_sem, seval, Nat.add_assoc] at c1 c2 c3 c4 ⊢
  simp only [FinA, go_sem, seval, Nat.add_assoc, c1, c2, c3, c4]
  exact ⟨_, rfl, fun k hk => (q3 k om).trans ((hl k om om om).trans (hl6 k hk)), by rw [hr]; exact .kl ⟨trivial, trivial, trivial, trivial, trivial⟩⟩
 rintro rr H7 n9 hc
 obtain ⟨x1, v1, he, h1, rfl, hl1⟩ := hc.got om om om
 obtain ⟨_, hx1, hy⟩ := map_ok he
 cases hy
 have hI1 := step_QI om hx1
 have hm1 := qi_mle hI1
 rw [show VW t ⟨0, ⟨0, 0, [], 0, []⟩, [], 0⟩ = .ok x1 from hx1, ZU] at hr
 have hC := hC.on (H' := H7) fun j a1 a2 => hl1 _ om om
 refine nz ?_
 refine kas ?_
 refine Zf zs [4, 5, 6, 7, 8] fun K V => ?_
 try simp only [go_sem, seval, hszs, hags, hmos, Nat.add_assoc, f1, f2, f3, f4, c1, YX, YY, YZ, Yr]
 repeat refine peel ?_
 refine cK func79 ((LJ hfs om (8 * t.length + 16)).2.2 _ (Nat.le_refl _) x1 v1 _ _ hI1 om h1) ?_ ?_
 ·rintro q9 H9 n9 hc
  obtain ⟨p, he, rfl, hn, hl⟩ := hc.pan
  have hr := hr.trans (bind_err (Yj he))
  refine (Xu (k := n + 1) p om (hC.on fun j a1 a2 => hl _ om om om)).mono ?_
  rintro m' H' n' ⟨rfl, q1, q2, q3⟩
  have c1 := q2.c1
  have c2 := q2.c2
  have c3 := q2.c3
  have c4 := q2.c4
  simp only [FinA, go_sem, seval, Nat.add_assoc] at c1 c2 c3 c4 ⊢
  simp only [FinA, go_sem, seval, Nat.add_assoc, c1, c2, c3, c4]
  exact ⟨_, rfl, fun k hk => (q3 k om).trans ((hl k om om om).trans ((hl1 k om om).trans (hl6 k hk))), by rw [hr]; exact .kl ⟨trivial, trivial, trivial, trivial, trivial⟩⟩
 rintro rr H8 n9 hc
 obtain ⟨_, v2, he, h2, rfl, hl2⟩ := hc.got om om om
 obtain ⟨x2, hx2, hy⟩ := map_ok he
 cases hy
 have hg2 := (Vd om _).1 x1 x2.1 x2.2 hI1 hx2
 rw [hx2, ZU] at hr
 have hC := hC.on (H' := H8) fun j a1 a2 => hl2 _ om om
 have c1 := hC.c1
 try simp only [go_sem, seval, hszs, hags, hmos, Nat.add_assoc, f1, f2, f3, f4, c1, YX, YY, YZ, Yr]
 refine kad ?_
 refine Za fun K2 hK2 => ?_
 refine ZO (fun H' n' => QdH fs t (n + 5) (n + 6) x2.2 v2 H' n' ∧ JD (n + 1) (Yc x2.1) (.str []) (.int .i64 0) (.bool false) H' ∧ (∀ k, k < n → H' k = H k) ∧ n' = n + 7) ⟨h2.on (Pi _ _ om) (Pi _ _ om) (Nat.le_refl _), ⟨Pk _ _ _, (Pi _ _ om).trans hC.c2, (Pi _ _ om).trans hC.c3, (Pi _ _ om).trans hC.c4, YX _, rfl, rfl, rfl⟩, fun k hk => by rw [Pi _ _ om, hl2 k om om, hl1 k om om]; exact hl6 k hk, om⟩ fun H9 n9 ⟨hQ, hC, hl9, hn9⟩ => ?_
 subst hn9
 have hR1 := hQ.r
 unfold qdO at hR1
 refine Zf zs [4, 5, 6, 7, 8, 28] fun K V => ?_
 refine kcG ?_
 refine kad ?_
 refine Zb ?_ ?_ <;> intro hb
 ·have hb1 : x2.2.nxt.kind ≠ 0 := by have h9 := hb; simp at h9; omega
  rw [if_pos hb1] at hr
  refine ZG zs [4, 5, 6, 7, 8] fun K V => ?_
  refine kcG ?_
  repeat refine peel ?_
  refine Zt (args' := [.int .i64 x2.2.nxt.pos]) func80 rfl rfl rfl (Ya x2.2.nxt.pos _ _) ?_ ?_
  ·rintro rr H' n' ⟨rfl, rfl, hz⟩
   cases hz
  rintro q9 H' n' ⟨rfl, rfl, hz⟩
  cases hz
  refine (Xu (k := n + 1) x2.2.nxt.pos om hC).mono ?_
  rintro m' H' n' ⟨rfl, q1, q2, q3⟩
  have c1 := q2.c1
  have c2 := q2.c2
  have c3 := q2.c3
  have c4 := q2.c4
  simp only [FinA, go_sem, seval, Nat.add_assoc] at c1 c2 c3 c4 ⊢
  simp only [FinA, go_sem, seval, Nat.add_assoc, c1, c2, c3, c4]
  exact ⟨_, rfl, fun k hk => (q3 k om).trans (hl9 k hk), by rw [hr]; exact .kl ⟨trivial, trivial, trivial, trivial, trivial⟩⟩
 have hb1 : ¬ x2.2.nxt.kind ≠ 0 := by have h9 := hb; simp at h9; omega
 rw [if_neg hb1] at hr
 refine kaQ ?_
 refine Za fun K3 hK3 => ?_
 refine Zf zs [4, 5, 6, 7, 8, 38, 39, 40] fun K V => ?_
 refine kcG ?_
 refine kad ?_
 refine kbM ?_
 refine Zp (fun T' H' n' => ∃ i : Nat, i ≤ x2.2.out.length ∧ T' = tl [(4, .loc (n + 1) 0 0 0 []), (5, .loc (n + 2) 0 0 0 []), (6, .loc (n + 3) 0 0 0 []), (7, .loc (n + 4) 0 0 0 []), (8, .loc (n + 5) 0 0 0 []), (38, .osl (n + 6) v2 0 x2.2.out.length), (39, .int .i64 x2.2.out.length), (40, .int .i64 i)] ∧ QdH fs t (n + 5) (n + 6) x2.2 v2 H' n' ∧ JD (n + 1) (Yc x2.1) (.str (Wo none (x2.2.out.take i))) (.int .i64 0) (.bool false) H' ∧ (∀ k, k < n → H' k = H k) ∧ n + 7 ≤ n') (fun T' _ _ => x2.2.out.length - iv (T' 40)) ?_ ?_
 ·exact ⟨0, Nat.zero_le _, rfl, hQ, hC, hl9, Nat.le_refl _⟩
 rintro T1 H1 n1 ⟨i, hi, rfl, hQ, hC, hl9, hn1⟩
 have hR1 := hQ.r
 unfold qdO at hR1
 have hO1 := hQ.o
 unfold outO at hO1
 have c1 := hC.c1
 have c2 := hC.c2
 have c3 := hC.c3
 have c4 := hC.c4
 have g1 : (n + 5 = n1) = False := oz
 have g2 : (n + 6 = n1) = False := oz
 have g3 : (n + 2 = n1) = False := oz
 have g4 : (n1 = n + 2) = False := oz
 have hol := hg2.1.outs om
 refine rg zs [4, 5, 6, 7, 8, 38, 39, 40, 41] ?_
 refine Za fun K4 hK4 => ?_
 refine Zb ?_ ?_ <;> intro hb
 ·have hlt : i < x2.2.out.length := ott
  have hnth : nth (x2.2.out.map wdAV) i = wdAV (x2.2.out.getD i default) := Zx wdAV _ _ hlt
  have hnth2 : nth (x2.2.out.map wdAV) ((i : Int) - 1).toNat = wdAV (x2.2.out.getD (i - 1) default) := by rw [show ((i : Int) - 1).toNat = i - 1 by omega]; exact Zx wdAV _ _ om
  have hx : IntKind.i64.wrap ((i : Int) + 1) = ((i + 1 : Nat) : Int) := w1 om
  have hx2 : IntKind.i64.wrap ((i : Int) - 1) = (i : Int) - 1 := w64 om om
  have hcan := canonG_take x2.2.out hlt
  have hcl := NI (x2.2.out.take i) none (fun w hw => hg2.1.text w (List.mem_of_mem_take hw))
  rw [List.length_take] at hcl
  have htx := hg2.1.text _ (YH x2.2.out hlt)
  refine kb3 ?_
  refine bk fun K5 hK5 => ?_
  refine Zf zs [4, 5, 6, 7, 8, 9, 10, 38, 39, 40] fun K V => ?_
  refine kbb ?_
  repeat (first | (refine And.intro ?_ ?_; · first | exact ⟨om, om⟩) | refine peel ?_)
  refine kas ?_
  refine Za fun K6 hK6 => ?_
  refine Zf zs [4, 5, 6, 7, 8, 10, 38, 39, 40, 63] fun K V => ?_
  try simp only [go_sem, seval, hszs, hags, hmos, Nat.add_assoc, f1, f2, f3, f4, hR1, hO1, c2, g1, g2, g3, g4, hnth, hx, wdAV, List.length_map, Int.toNat_natCast, hnth2, hx2]
  repeat (first | (refine And.intro ?_ ?_; · first | (intro hx9; rcases Nat.eq_zero_or_pos i with q | q; (rw [decide_eq_false om] at hx9; cases hx9); first | exact ⟨om, om⟩ | omega) | (intros; simp_all; done)) | refine peel ?_)
  refine kas ?_
  refine Zb ?_ ?_ <;> intro hb
  ·have hsep : XL (if i = 0 then none else some (x2.2.out.getD (i - 1) default)) (x2.2.out.getD i default) = [32] := by
     have hi0 : i ≠ 0 := by intro e; rw [e] at hb; simp at hb
     rw [if_neg hi0]; unfold XL; rw [decide_eq_true om] at hb; simp at hb; simp [hb.1, hb.2]
   refine ZG zs [4, 5, 6, 7, 8, 10, 38, 39, 40] fun K V => ?_
   try simp only [go_sem, seval, hszs, hags, hmos, Nat.add_assoc, f1, f2, f3, f4, hR1, hO1, c2, g1, g2, g3, g4, hnth, hx, wdAV, List.length_map, Int.toNat_natCast]
   repeat refine peel ?_
   apply V; clear V K
   refine ns ?_
   apply hK6
   refine ZG zs [4, 5, 6, 7, 8, 38, 39, 40] fun K V => ?_
   try simp only [go_sem, seval, hszs, hags, hmos, Nat.add_assoc, f1, f2, f3, f4, hR1, hO1, c2, g1, g2, g3, g4, hnth, hx, wdAV, List.length_map, Int.toNat_natCast]
   repeat (first | (refine And.intro ?_ ?_; · first | (simp only [List.length_append, List.length_cons, List.length_nil]; omega)) | refine peel ?_)
   apply V; clear V K
   refine ns ?_
   apply hK5
   refine ZG zs [4, 5, 6, 7, 8, 38, 39, 40] fun K V => ?_
   try simp only [go_sem, seval, hszs, hags, hmos, Nat.add_assoc, f1, f2, f3, f4, hR1, hO1, c2, g1, g2, g3, g4, hnth, hx, wdAV, List.length_map, Int.toNat_natCast]
   repeat refine peel ?_
   apply V; clear V K
   refine ns ?_
   refine ⟨⟨i + 1, om, rfl, hQ.on oh oh om, ⟨?_, ?_, ?_, ?_, hC.sz.1, rfl, rfl, rfl⟩, fun k hk => ohx (hl9 k hk), om⟩, om⟩
   ·refine ohx ?_; exact hC.c1
   ·rw [Pk, hcan, hsep]; simp
   ·refine ohx ?_; exact hC.c3
   ·refine ohx ?_; exact hC.c4
  have hsep : XL (if i = 0 then none else some (x2.2.out.getD (i - 1) default)) (x2.2.out.getD i default) = [] := by
    by_cases hi0 : i = 0
    ·rw [if_pos hi0]; rfl
    ·rw [if_neg hi0]; unfold XL; simp only; rw [if_neg]; rintro ⟨a1, a2⟩; rw [decide_eq_true om, show ((x2.2.out.getD i default).text == [41]) = false by simpa using a1, show ((x2.2.out.getD (i - 1) default).text == [40]) = false by simpa using a2] at hb; cases hb
  refine ak ?_
  apply hK6
  refine ZG zs [4, 5, 6, 7, 8, 38, 39, 40] fun K V => ?_
  refine kbb ?_
  refine kad ?_
  refine ns ?_
  apply hK5
  refine ZG zs [4, 5, 6, 7, 8, 38, 39, 40] fun K V => ?_
  refine kbb ?_
  refine kad ?_
  refine ns ?_
  refine ⟨⟨i + 1, om, rfl, hQ.on oh oh om, ⟨?_, ?_, ?_, ?_, hC.sz.1, rfl, rfl, rfl⟩, fun k hk => ohx (hl9 k hk), om⟩, om⟩
  ·refine ohx ?_; exact hC.c1
  ·rw [Pk, hcan, hsep]; simp
  ·refine ohx ?_; exact hC.c3
  ·refine ohx ?_; exact hC.c4
 have hge : i = x2.2.out.length := otf
 have htk : x2.2.out.take i = x2.2.out := List.take_of_length_le om
 refine ax ?_
 apply hK3
 refine awp_noPan ?_
 refine YS rfl zs [4, 5, 6, 7] [.q, .q, .w [1], .w [], .w [], .w []] [0, 1, 2, 3, 4, 5] [0, 1, 2, 3, 4, 5] (by kernel_rfl) (fun _ _ _ _ _ h => h) fun K V => ?_
 try simp only [go_sem, seval, hszs, hags, hmos, Nat.add_assoc, f1, f2, f3, f4, c1, c2, c3, c4, YX, YY, YZ, Yr]
 refine kad ?_
 refine ZO (fun H' n' => JD (n + 1) (Yc x2.1) (.str (Wo none x2.2.out)) (.int .i64 0) (.bool true) H' ∧ (∀ k, k < n → H' k = H k)) ⟨⟨by simp [Heap.put], by simp [Heap.put, htk], by simp [Heap.put], by simp [Heap.put], YX _, rfl, rfl, rfl⟩, fun k hk => ohx (hl9 k hk)⟩ fun Hz nz ⟨hC, hlz⟩ => ?_
 refine ar ?_
 try simp only [NoPan, FinD]
 first
 | (refine (QP (k := n + 1)).mono ?_
    rintro m' H' n' ⟨rfl, rfl, rfl⟩
    have c1 := hC.c1
    have c2 := hC.c2
    have c3 := hC.c3
    have c4 := hC.c4
    simp only [FinA, go_sem, seval, Nat.add_assoc] at c1 c2 c3 c4 ⊢
    simp only [FinA, go_sem, seval, Nat.add_assoc, c1, c2, c3, c4, YX, YY, YZ, Yr]
    try refine ⟨trivial, ?_⟩
    exact ⟨_, rfl, hlz, by rw [hr]; exact .kl ⟨Xb _ _, trivial, trivial, trivial, trivial⟩⟩)
theorem NQh0.eqs {P Q : Prop} (g : Imp P Q := by (try simp only [go_sem, seval, hszs, hags, hmos, J5]); exact Pm) : Imp P Q := g
open NQh0 NY in
theorem JQ (fs : List Fml) (hfs : fs.length ≤ 1048576) (t : List UInt8) (H : Heap) (n : Nat) : Ret prog 39 [Zi fs, .str t] H n (.tup [.str (Y5 fs t).1, .int .i64 (Y5 fs t).2.1, .int .i64 (Y5 fs t).2.2]) H n := by
 have hszs : (Zi fs).sz = 1 := rfl
 have hags : (Zi fs).isAgg = true := rfl
 have hmos : (Zi fs).memOK = true := rfl
 refine Ret.fin ?_
 refine fw func39 ntmps39 results39 ?_
 refine rg zs [1, 2] ?_
 refine Za fun K1 hK1 => ?_
 refine rc zs [1, 2, 7] func66 ((VS fs _ _)) ?_
 refine rg zs [1, 2, 7, 15] ?_
 refine Zb ?_ ?_ <;> intro hb
 ·have hw : Y5 fs t = ([], Zv fs, 0) := by unfold Y5; rw [if_pos osb]
  exact ka5
 have hs0 : Zv fs = 0 := osb
 refine kay ?_
 rcases hp : WF fs t with p | x
 ·have hw : Y5 fs t = ([], 131, (p : Int)) := by unfold Y5; rw [if_neg (by simp [hs0]), hp]
  refine rc zs [9, 10, 11] func51 ((hp ▸ Un fs hfs t _ _)) ?_
  refine Za fun K2 hK2 => ?_
  refine rg zs [9, 10, 26] ?_
  refine Zb ?_ ?_ <;> intro hb
  ·exact ka5
  exact kaJ
 ·have hw : Y5 fs t = (x.2, 0, 0) := by unfold Y5; rw [if_neg (by simp [hs0]), hp]
  refine rc zs [9, 10, 11] func51 ((hp ▸ Un fs hfs t _ _)) ?_
  refine Za fun K2 hK2 => ?_
  refine rg zs [9, 10, 26] ?_
  refine Zb ?_ ?_ <;> intro hb
  ·exact kaJ
  refine kaQ ?_
  exact ka5
theorem XJ {H : Heap} {n : Nat} {a b : Bool} (h : a = b) : Frz H n (.bool a) (.bool b) := h ▸ .kl trivial
theorem NQh1.eqs {P Q : Prop} (g : Imp P Q := by (try simp only [go_sem, seval, hsz, Zg, Zu, bys, List.length_map]); exact Pm) : Imp P Q := g
open NQh1 NY in
theorem c_query_asks (q : QryE) (row : List UInt8) (H : Heap) (n : Nat) : Ret prog 95 [Zg q, bys row] H n (.bool (Y1 q row)) H n := by
 have hsz : (Zg q).sz = 10 := Z6 q
 refine Ret.fin ?_
 refine fw func95 ntmps95 results95 ?_
 refine rg zs [1, 2] ?_
 refine rk zs [4] fun K V => ?_
 refine ck func54 ((Yb row q.frm _ _)) ?_
 refine cg func54 (fun _ => (Yb row q.to _ _)) ?_
 refine kas ?_
 refine ar ?_
 refine ⟨_, rfl, fun k hk => onn, XJ ?_⟩
 unfold Y1
 have e1 : ((q.to.length : Int) == 0) = decide (q.to.length = 0) := by rw [Bool.eq_iff_iff, beq_iff_eq, decide_eq_true_eq]; omega
 rw [e1]
 exact kcP
theorem NQh2.eqs {P Q : Prop} (g : Imp P Q := by (try simp only [go_sem, seval, hsz, hszs, Zi, Zg, Zu, bys, List.length_map, f1, f2]); exact Pm) : Imp P Q := g
theorem NQh2.sd {P : Prop} (g : P := by first | (intros; simp_all; done) | fail) : P := g
set_option maxHeartbeats 1600000 in
open NQh2 NZ in
theorem c_query_fits (fs : List Fml) (hfs : fs.length ≤ 1048576) (q : QryE) (hq : q.fams.length ≤ 1048576) (H : Heap) (n : Nat) : Ret prog 67 [Zi fs, Zg q] H n (.bool (Yk fs.length q)) H n := by
 have hszs : (Zi fs).sz = 1 := rfl
 have hsz : (Zg q).sz = 10 := Z6 q
 have f1 : (n = n + 1) = False := osi
 have f2 : (n + 1 = n) = False := osi
 refine Ret.fin ?_
 refine fw func67 ntmps67 results67 ?_
 refine rg zs [2, 3] ?_
 refine Za fun K1 hK1 => ?_
 refine rk zs [2, 3, 30] fun K V => ?_
 refine cg func54 (fun _ => (Yb q.to q.frm _ _)) ?_
 refine kas ?_
 refine Zb ?_ ?_ <;> intro hb
 ·have h1 : Qe q = true := by unfold Qe; simp only [Int.natCast_pos] at hb; grind
  have hf : Yk fs.length q = false := by unfold Yk; rw [h1]; rfl
  refine kag ?_
  exact ⟨_, rfl, fun k hk => oh, XJ hf.symm⟩
 have h1 : Qe q = false := by unfold Qe; simp only [Int.natCast_pos] at hb; grind
 refine kay ?_
 refine Za fun K2 hK2 => ?_
 refine rg zs [2, 3, 32, 33, 34] ?_
 refine kbM ?_
 refine Zp (fun T' H' n' => ∃ i : Nat, i ≤ q.fams.length ∧ (∀ j, j < i → fbad fs.length q.fams j = false) ∧ T' = tl [(2, .loc n 0 0 0 []), (3, .loc (n + 1) 0 0 0 []), (32, Zu q.fams), (33, .int .i64 q.fams.length), (34, .int .i64 i)] ∧ H' = (H.put n (some (.arr 0 1 [Zi fs]))).put (n + 1) (some (.arr 0 10 [Zg q])) ∧ n' = n + 2) (fun T' _ _ => q.fams.length - iv (T' 34)) ?_ ?_
 ·exact ⟨0, Nat.zero_le _, fun j hj => absurd hj (Nat.not_lt_zero _), by simp [Zu], by simp [Zi, Zg, Zu, bys], rfl⟩
 rintro T1 H1 n1 ⟨i, hi, hno, rfl, rfl, rfl⟩
 refine rg zs [2, 3, 32, 33, 34, 35] ?_
 refine Za fun K3 hK3 => ?_
 refine Zb ?_ ?_ <;> intro hb
 ·have hlt : i < q.fams.length := ott
  have hnth : nth (q.fams.map fun n => AV.int .i64 n) i = AV.int .i64 (q.fams.getD i 0) := Zx (fun n => AV.int .i64 n) q.fams _ hlt
  have hnth2 : nth (q.fams.map fun n => AV.int .i64 n) ((i : Int) - 1).toNat = AV.int .i64 (q.fams.getD (i - 1) 0) := by rw [show ((i : Int) - 1).toNat = i - 1 by omega]; exact Zx (fun n => AV.int .i64 n) q.fams _ om
  have hx : IntKind.i64.wrap ((i : Int) + 1) = ((i + 1 : Nat) : Int) := w1 om
  have hx2 : IntKind.i64.wrap ((i : Int) - 1) = (i : Int) - 1 := w64 om om
  refine kba ?_
  refine bk fun K4 hK4 => ?_
  refine Zf zs [2, 3, 5, 6, 32, 33, 34] fun K V => ?_
  try simp only [go_sem, seval, hsz, hszs, Zi, Zg, Zu, bys, List.length_map, f1, f2, hnth, Int.toNat_natCast]
  repeat (first | (refine And.intro ?_ ?_; · first | exact ⟨om, om⟩) | refine peel ?_)
  refine kas ?_
  refine Zf zs [2, 3, 32, 33, 34, 61] fun K V => ?_
  try simp only [go_sem, seval, hsz, hszs, Zi, Zg, Zu, bys, List.length_map, f1, f2, hnth2, hx2]
  repeat (first | (refine And.intro ?_ ?_; · first | (intro hx9; rcases Nat.eq_zero_or_pos i with q9 | q9; (rw [show decide ((0 : Int) < (i : Int)) = false from decide_eq_false om] at hx9; simp at hx9); first | exact ⟨om, om⟩ | omega) | (intros; simp_all; done)) | refine peel ?_)
  refine kas ?_
  refine Zb ?_ ?_ <;> intro hb
  ·have hf1 : fbad fs.length q.fams i = true := by unfold fbad; simp only [Int.natCast_pos] at hb; grind
   have hf : Yk fs.length q = false := by
     exact kbE
   refine kag ?_
   exact ⟨_, rfl, fun k hk => oh, XJ hf.symm⟩
  have hf1 : fbad fs.length q.fams i = false := by unfold fbad; simp only [Int.natCast_pos] at hb; grind
  refine kb3 ?_
  refine ZG zs [2, 3, 32, 33, 34] fun K V => ?_
  try simp only [go_sem, seval, hsz, hszs, Zi, Zg, Zu, bys, List.length_map, f1, f2, hx]
  refine kad ?_
  exact kbH
 have hge : i = q.fams.length := otf
 refine ax ?_
 apply hK2
 refine kag ?_
 first
 | (refine ⟨_, rfl, fun k hk => oh, XJ ?_⟩
    have hfu : Uj fs.length q.fams = true := by unfold Uj; rw [List.all_eq_true]; intro j hj; rw [hno j (by have := List.mem_range.1 hj; omega)]; rfl
    unfold Yk Vk
    rw [h1, hfu]
    have e1 : decide ((q.pre.length : Int) ≤ 256) = decide (q.pre.length ≤ 256) := decide_eq_decide.2 om
    rw [e1]
    simp only [Bool.cond_false_right, Bool.not_false, Bool.true_and])
theorem kl_roAV (fs : List Fml) (t : List UInt8) (s : Ro) (n : Nat) : (s.av fs t).kl n := ⟨trivial, kl_schQ fs n, ⟨trivial, trivial, trivial, trivial, trivial⟩, trivial, trivial, trivial, trivial⟩
theorem Ro.fin {P : Program} {f : FuncId} {args : List AV} {fs : List Fml} {t : List UInt8} {kr : Nat} {H : Heap} {n : Nat} {v : AV} {s : Ro} (hk : kr < n)
   (h : Zn P f args H n fun res H1 _ => ∃ v1, res = .val v1 ∧ Frz H1 n v1 v ∧ H1 kr = some (s.obj fs t) ∧ ∀ k, k < n → k ≠ kr → H1 k = H k) : Ret P f args H n v (H.put kr (some (s.obj fs t))) n :=
 PX (h.mono fun res H1 n' ⟨v1, h1, h2, h3, h4⟩ => .inl ⟨v1, v, H.put kr (some (s.obj fs t)), h1, fun k hk3 => by
   by_cases e : k = kr
   ·subst e
    exact .inr ⟨0, 9, [s.av fs t], [s.av fs t], h3, Pk _ _ _, .cons (.kl (kl_roAV fs t s n)) .nil⟩
   ·rw [LowO, Pi _ _ e, h4 k hk3 e]
    exact .inl ⟨rfl, .inl rfl⟩, fun k hk3 => Pi _ _ om, h2, rfl, rfl, rfl⟩)
section
variable (fs : List Fml) (t : List UInt8) (s : Ro) (kr : Nat)
theorem NHa0.eqs {P Q : Prop} (g : Imp P Q := by (try simp only [go_sem, seval, hR1, hszs]); exact Pm) : Imp P Q := g
open NHa0 NY in
theorem U6 (a : Int) (H : Heap) (n : Nat) (hk : kr < n) (hR : H kr = some (s.obj fs t)) : Ret prog 137 [.loc kr 0 0 0 [], .int .i64 a] H n (.tup []) (H.put kr (some ((YI s a).obj fs t))) n := by
 have hR1 := hR
 unfold Ro.obj Ro.av roAV rwAV at hR1
 have hszs : (Zi fs).sz = 1 := rfl
 refine Ro.fin hk ?_
 refine fw func137 ntmps137 results137 ?_
 refine rg zs [0, 1, 8] ?_
 refine Zb ?_ ?_ <;> intro hb
 ·have hd : YI s a = { s with bad := a } := if_pos (of_decide_eq_true hb)
  refine rg1 zs [] ?_
  exact ⟨_, rfl, .tup .nil, by rw [hd]; rfl, fun k hk1 hk2 => onn⟩
 have hd : YI s a = s := if_neg (of_decide_eq_false hb)
 refine ak ?_
 exact ⟨_, rfl, .tup .nil, by rw [hd]; rfl⟩
open NHa0 NY in
theorem XM (H : Heap) (n : Nat) (hk : kr < n) (hR : H kr = some (s.obj fs t)) : Ret prog 108 [.loc kr 0 0 0 []] H n (.tup []) (H.put kr (some ((YV t s).obj fs t))) n := by
 have hR1 := hR
 unfold Ro.obj Ro.av roAV rwAV at hR1
 have hszs : (Zi fs).sz = 1 := rfl
 refine Ro.fin hk ?_
 refine fw func108 ntmps108 results108 ?_
 refine Za fun K1 hK1 => ?_
 refine rg zs [0, 7] ?_
 refine Zb ?_ ?_ <;> intro hb
 ·have hd : YV t s = YI s t.length := by unfold YV; rw [if_pos (by have h9 := hb; simp at h9; omega)]
  refine rc zs [] func137 ((U6 fs t s kr _ _ _ hk hR)) ?_
  refine ar ?_
  exact ⟨_, rfl, .tup .nil, by rw [hd] <;> rfl, fun k hk1 hk2 => onn⟩
 have hd : YV t s = YI s s.w.pos := by unfold YV; rw [if_neg (by have h9 := hb; simp at h9; omega)]
 refine kay ?_
 refine rc1 zs [] func137 ((U6 fs t s kr _ _ _ hk hR)) ?_
 exact ⟨_, rfl, .tup .nil, by rw [hd] <;> rfl, fun k hk1 hk2 => onn⟩
theorem NHa1.eqs {P Q : Prop} (g : Imp P Q := by (try simp only [go_sem, seval, hR1, hszs, hszw, g1, g2, rwAV]); exact Pm) : Imp P Q := g
theorem NHa1.sd {P : Prop} (g : P := by first | exact fun d hd => by cases hd; exact callQ_mkQ func136 rfl rfl rfl (fun n => hX ▸ Ko t s.p ht hs _ n) | fail) : P := g
set_option maxHeartbeats 1600000 in
open NHa1 NZ in
theorem Wp (ht : t.length ≤ 512) (hs : s.p ≤ t.length) (H : Heap) (n : Nat) (hk : kr < n) (hR : H kr = some (s.obj fs t)) : Ret prog 106 [.loc kr 0 0 0 []] H n (.tup []) (H.put kr (some ((Zm t s).obj fs t))) n := by
 have hR1 := hR
 unfold Ro.obj Ro.av roAV rwAV at hR1
 have hszs : (Zi fs).sz = 1 := rfl
 have hszw : ∀ w, (rwAV w).sz = 4 := fun _ => rfl
 have g1 : (kr = n) = False := oz
 have g2 : (n = kr) = False := oz
 obtain ⟨X, hX⟩ : ∃ X, X = Xj t s.p := ⟨_, rfl⟩
 have hnx : Zm t s = if X.2.2 then { s with w := X.1, p := X.2.1 } else YI { s with w := X.1, p := X.2.1 } X.1.pos := by rw [hX]; rfl
 refine Ro.fin hk ?_
 refine fw func106 ntmps106 results106 ?_
 refine dx zs [0, 2, 3, 4] [.m, .q, .q, .q, .m, .q, .q, .q, .c, .m, .q, .q, .q, .w [1, 2, 3, 5, 6, 7, 8, 10, 11, 12], .w [11, 12], .q, .q] [0, 1, 2, 3, 4, 5, 6, 7, 8, 9, 10, 11, 12, 13, 14, 15, 16] [0, 1, 2, 3, 4, 5, 6, 7, 8, 9, 10, 11, 12, 13, 14, 15, 16] fun K V => ?_
 refine cq func136 (fun _ n => (hX ▸ Ko t s.p ht hs _ _)) ?_
 refine kas ?_
 refine rg zs [0, 2, 3, 4] ?_
 refine rg zs [0, 2, 4] ?_
 refine rg zs [0, 2, 27] ?_
 refine Zb ?_ ?_ <;> intro hb
 ·have hw : X.2.2 = false := osb
  rw [hw] at hnx
  simp only [Bool.false_eq_true, if_false] at hnx
  refine rk1 zs [] fun K V => ?_
  refine ck func137 ((U6 fs t { s with w := X.1, p := X.2.1 } kr _ _ _ om (Pk _ _ _))) ?_
  refine kas ?_
  refine ns ?_
  exact ⟨_, rfl, .tup .nil, by rw [hnx] <;> rfl, fun k hk1 hk2 => onn⟩
 have hw : X.2.2 = true := osb
 rw [hw] at hnx
 simp only [if_true] at hnx
 refine ak ?_
 exact ⟨_, rfl, .tup .nil, by rw [hnx] <;> rfl, fun k hk1 hk2 => onn⟩
open NHa0 NY in
theorem VR (ht : t.length ≤ 512) (hs : s.p ≤ t.length) (k : Nat) (w : List UInt8) (H : Heap) (n : Nat) (hk : kr < n) (hR : H kr = some (s.obj fs t)) : Ret prog 138 [.loc kr 0 0 0 [], .int .u8 k, .str w] H n (.bool (isB k w s)) (H.put kr (some ((isS t k w s).obj fs t))) n := by
 have hR1 := hR
 unfold Ro.obj Ro.av roAV rwAV at hR1
 have hszs : (Zi fs).sz = 1 := rfl
 have hB : isB k w s = !(bif (bif decide (0 ≤ s.bad) then true else ((s.w.kind : Int) != (k : Int))) then true else !(s.w.text == w)) := by
   unfold isB
   have e : ((s.w.kind : Int) != (k : Int)) = !(s.w.kind == k) := by rw [Bool.eq_iff_iff]; simp; omega
   rw [e]
   by_cases h : s.bad < 0
   ·rw [decide_eq_true h, decide_eq_false om]; cases (s.w.kind == k) <;> simp [bne]
   ·rw [decide_eq_false h, decide_eq_true om]; rfl
 refine Ro.fin hk ?_
 refine fw func138 ntmps138 results138 ?_
 refine rg zs [0, 1, 2] ?_
 refine Za fun K1 hK1 => ?_
 refine rg zs [0, 29] ?_
 refine Zb ?_ ?_ <;> intro hb
 ·have hf : isB k w s = false := by rw [hB, hb]; rfl
  have hs2 : isS t k w s = s := by unfold isS; rw [hf]; rfl
  refine rg zs [6] ?_
  refine ar ?_
  exact ⟨_, rfl, XJ hf.symm, by rw [hs2] <;> rfl⟩
 have hf : isB k w s = true := by rw [hB, hb]; rfl
 have hs2 : isS t k w s = Zm t s := by unfold isS; rw [hf]; rfl
 refine kay ?_
 refine rc zs [] func106 ((Wp fs t s kr ht hs _ _ hk hR)) ?_
 refine rg zs [6] ?_
 refine ar ?_
 exact ⟨_, rfl, XJ hf.symm, by rw [hs2] <;> rfl, fun k hk1 hk2 => onn⟩
end
theorem Ll (w : List UInt8) (H : Heap) (n : Nat) : Ret prog 167 [.str w] H n (.int .u8 ((agK w : Nat) : Int)) H n := by
 have h := L9 w H n
 unfold agK
 by_cases h1 : w = wFam
 ·rw [if_pos h1] at h ⊢; exact h
 ·by_cases h2 : w = wTs
  ·rw [if_neg h1, if_pos h2] at h ⊢; exact h
  ·rw [if_neg h1, if_neg h2] at h ⊢; exact h
theorem VL {H : Heap} {n : Nat} (k s t : List UInt8) (m : Int) : Frz H n (.agg [.str k, .nilsl, .str s, .str t, .int .i64 m]) (CR.nd k [] s t m).av :=
 .agg (.cons (.kl trivial) (.cons .nilsl (.cons (.kl trivial) (.cons (.kl trivial) (.cons (.kl trivial) .nil)))))
theorem NHb0.eqs {P Q : Prop} (g : Imp P Q := by (try simp only [go_sem, seval, hR1, hszs, hags, hmos, hss, g1, g2, g3, g4, g5, g6, rwAV, Ro.obj, Ro.av, roAV]); exact Pm) : Imp P Q := g
set_option maxHeartbeats 3200000 in
open NHb0 NY in
theorem c_ref13_test (fs : List Fml) (hfs : fs.length ≤ 1048576) (t : List UInt8) (s : Ro) (kr : Nat) (ht : t.length ≤ 512) (hs : s.p ≤ t.length) (H : Heap) (n : Nat) (hk : kr < n) (hR : H kr = some (s.obj fs t)) :
   Ret prog 157 [.loc kr 0 0 0 []] H n (Ux fs t s).1.av (H.put kr (some ((Ux fs t s).2.obj fs t))) n := by
 have hR1 := hR
 unfold Ro.obj Ro.av roAV rwAV at hR1
 have hszs : (Zi fs).sz = 1 := rfl
 have hags : (Zi fs).isAgg = true := rfl
 have hmos : (Zi fs).memOK = true := rfl
 have hss : ∀ g, strip g (Zi fs) = Zi fs := fun g => by cases g <;> rfl
 have g1 : (kr = n) = False := oz
 have g2 : (kr = n + 1) = False := oz
 have g3 : (n = kr) = False := oz
 have g4 : (n + 1 = kr) = False := oz
 have g5 : (n = n + 1) = False := osi
 have g6 : (n + 1 = n) = False := osi
 obtain ⟨r, hr⟩ : ∃ r, r = Ux fs t s := ⟨_, rfl⟩
 rw [← hr]
 unfold Ux at hr
 have p1 := UZ (s := s) ht hs
 have p2 := UZ (s := Zm t s) ht p1
 obtain ⟨s1, hs1⟩ : ∃ x, x = Zm t s := ⟨_, rfl⟩
 rw [← hs1] at hr p1 p2
 obtain ⟨s2, hs2⟩ : ∃ x, x = Zm t s1 := ⟨_, rfl⟩
 rw [← hs2] at hr p2
 have c1 := fun H n hk hR => hs1 ▸ Wp fs t s kr ht hs H n hk hR
 have c2 := fun H n hk hR => hs2 ▸ Wp fs t s1 kr ht p1 H n hk hR
 clear hs1 hs2
 have hbb : ∀ b : Int, (decide ((0 : Int) ≤ b) = true ↔ 0 ≤ b) := fun b => osi
 have hk1 : (bif ((s.w.kind : Int) != 110) then true else bif (bif (bif !(s.w.text == wFam) then !(s.w.text == Xk) else false) then !(s.w.text == YW) else false) then !(s.w.text == wTs) else false) = decide (s.w.kind ≠ 110 ∨ s.w.text ∉ [wFam, Xk, YW, wTs]) := by
   have e : ((s.w.kind : Int) != 110) = (s.w.kind != 110) := by rw [Bool.eq_iff_iff]; simp; omega
   rw [e]
   by_cases a1 : s.w.kind = 110 <;> by_cases a2 : s.w.text = wFam <;> by_cases a3 : s.w.text = Xk <;> by_cases a4 : s.w.text = YW <;> by_cases a5 : s.w.text = wTs <;> simp_all
 have hk2 : (bif ((s1.w.kind : Int) != 103) then true else !(decide (s1.w.text ∈ (if s.w.text = wFam then sEq else if s.w.text = wTs then sCmp else sAll)))) = decide (s1.w.kind ≠ 103 ∨ s1.w.text ∉ mayS s.w.text) := by
   have e : ((s1.w.kind : Int) != 103) = (s1.w.kind != 103) := by rw [Bool.eq_iff_iff]; simp; omega
   rw [e]; unfold mayS
   by_cases a1 : s1.w.kind = 103 <;> simp [a1]
 have hk3 : (bif ((s2.w.kind : Int) != ((agK s.w.text : Nat) : Int)) then true else bif s.w.text == wFam then decide (XB fs s2.w.text 0 < 0) else false) = decide (s2.w.kind ≠ agK s.w.text ∨ (s.w.text = wFam ∧ famF fs s2.w.text < 0)) := by
   have e : ((s2.w.kind : Int) != ((agK s.w.text : Nat) : Int)) = (s2.w.kind != agK s.w.text) := by rw [Bool.eq_iff_iff]; simp; omega
   rw [e]; unfold famF
   generalize agK s.w.text = K
   by_cases a1 : s2.w.kind = K <;> by_cases a2 : s.w.text = wFam <;> simp [a1, a2]
 refine Ro.fin hk ?_
 refine fw func157 ntmps157 results157 ?_
 refine rg zs [0, 2] ?_
 refine rg zs [0, 2, 3] ?_
 refine Za fun K1 hK1 => ?_
 refine rg zs [0, 2, 3, 14] ?_
 refine Zb ?_ ?_ <;> intro hb
 ·rw [if_pos (of_decide_eq_true hb)] at hr
  refine rg zs [2] ?_
  refine ar ?_
  rw [hr]
  exact ⟨_, rfl, VL _ _ _ _, rfl, fun k hk1 hk2 => onn⟩
 rw [if_neg (of_decide_eq_false hb)] at hr
 refine ak ?_
 apply hK1
 refine Za fun K2 hK2 => ?_
 refine rg zs [0, 2, 3, 41] ?_
 refine Zb ?_ ?_ <;> intro hb
 ·have hb2 := of_decide_eq_true (hk1.symm.trans hb)
  rw [if_pos hb2] at hr
  refine rk zs [2, 3] fun K V => ?_
  refine ck func108 ((XM fs t s kr _ _ om (ohx hR))) ?_
  apply V; clear V K
  refine rg zs [2] ?_
  refine ar ?_
  rw [hr]
  exact ⟨_, rfl, VL _ _ _ _, rfl, fun k hk1 hk2 => onn⟩
 have hb2 := of_decide_eq_false (hk1.symm.trans hb)
 rw [if_neg hb2] at hr
 refine ak ?_
 apply hK2
 refine rk zs [0, 2, 3] fun K V => ?_
 refine ck func106 ((c1 _ _ om (ohx hR))) ?_
 apply V; clear V K
 refine Za fun K3 hK3 => ?_
 refine rg zs [0, 2, 3, 51] ?_
 refine Zb ?_ ?_ <;> intro hb
 ·rw [if_pos (of_decide_eq_true hb)] at hr
  refine rg zs [2] ?_
  refine ar ?_
  rw [hr]
  exact ⟨_, rfl, VL _ _ _ _, rfl, fun k hk1 hk2 => onn⟩
 rw [if_neg (of_decide_eq_false hb)] at hr
 refine ak ?_
 apply hK3
 refine rg zs [0, 2, 3] ?_
 refine Za fun K4 hK4 => ?_
 refine rk zs [0, 2, 3, 72] fun K V => ?_
 refine cg func166 (fun _ => (c_ref13_may s.w.text s1.w.text _ _)) ?_
 apply V; clear V K
 refine Zb ?_ ?_ <;> intro hb
 ·have hb3 := of_decide_eq_true (hk2.symm.trans hb)
  rw [if_pos hb3] at hr
  refine rk zs [2, 3] fun K V => ?_
  refine ck func108 ((XM fs t s1 kr _ _ om ohr)) ?_
  apply V; clear V K
  refine rg zs [2] ?_
  refine ar ?_
  rw [hr]
  exact ⟨_, rfl, VL _ _ _ _, rfl, fun k hk1 hk2 => onn⟩
 have hb3 := of_decide_eq_false (hk2.symm.trans hb)
 rw [if_neg hb3] at hr
 refine ak ?_
 apply hK4
 refine rk zs [0, 2, 3] fun K V => ?_
 refine ck func106 ((c2 _ _ om ohr)) ?_
 apply V; clear V K
 refine Za fun K5 hK5 => ?_
 refine rg zs [0, 2, 3, 82] ?_
 refine Zb ?_ ?_ <;> intro hb
 ·rw [if_pos (of_decide_eq_true hb)] at hr
  refine rg zs [2] ?_
  refine ar ?_
  rw [hr]
  exact ⟨_, rfl, VL _ _ _ _, rfl, fun k hk1 hk2 => onn⟩
 rw [if_neg (of_decide_eq_false hb)] at hr
 refine ak ?_
 apply hK5
 refine rg zs [0, 2, 3] ?_
 refine rg zs [0, 2, 3] ?_
 refine Za fun K6 hK6 => ?_
 refine dx zs [0, 2, 3, 119] [.m, .q, .q, .q, .q, .q, .q, .c, .q, .m, .q, .q, .q, .m, .m, .q, .q, .q, .q, .q, .c, .q, .q, .q] [0, 1, 2, 3, 4, 5, 6, 7, 8, 9, 10, 11, 12, 13, 14, 15, 16, 17, 18, 19, 20, 21, 22, 23] [0, 1, 2, 3, 4, 5, 6, 7, 8, 9, 10, 11, 12, 13, 14, 15, 16, 17, 18, 19, 20, 21, 22, 23] fun K V => ?_
 refine cq func167 (fun _ n => (Ll s.w.text _ _)) ?_
 refine cq func168 (fun _ n => (by apply NR <;> first | assumption | omega)) ?_
 apply V; clear V K
 refine Zb ?_ ?_ <;> intro hb
 ·have hb4 := of_decide_eq_true (hk3.symm.trans hb)
  rw [if_pos hb4] at hr
  refine rk zs [2, 3] fun K V => ?_
  refine ck func108 ((XM fs t s2 kr _ _ om ohr)) ?_
  apply V; clear V K
  refine rg zs [2] ?_
  refine ar ?_
  rw [hr]
  exact ⟨_, rfl, VL _ _ _ _, rfl, fun k hk1 hk2 => onn⟩
 have hb4 := of_decide_eq_false (hk3.symm.trans hb)
 rw [if_neg hb4] at hr
 refine ak ?_
 apply hK6
 refine rk zs [2, 3] fun K V => ?_
 refine ck func106 ((Wp fs t s2 kr ht p2 _ _ om ohr)) ?_
 apply V; clear V K
 refine rg zs [2] ?_
 refine ar ?_
 rw [hr]
 exact ⟨_, rfl, VL _ _ _ _, rfl, fun k hk1 hk2 => onn⟩
end Go.Proofs.YtkmkbndcekklmaaGreatDoor