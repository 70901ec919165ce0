/- Own layer: walks through the checks of schemas and arguments. Of the program; no condition. -/
import Derived.Test.YtifnhpmeoogedaaGreatDoorPF
import Derived.Test.YtifnhpmeoogedaaGreatDoorPE
set_option linter.unusedSimpArgs false
set_option linter.unusedVariables false
namespace Go.Proofs.YtifnhpmeoogedaaGreatDoor
open Go Go.Sx Go.Rt Go.Proofs Tryz
theorem Xt (s : List Fml) (H : Heap) (n : Nat) : Ret prog 47 [Zt s] H n (.int .i64 (Z8 s)) H n := by
 refine Ret.fin ?_
 refine Zc func47 rfl ntmps47 (congrArg Array.toList results47) (by simp) ?_
 simp only [go_sem]
 refine ZE zs [1] ?_
 refine Zb fun K1 hK1 => ?_
 refine Za zs [1, 8] fun K Y => ?_
 simp only [go_sem, seval]
 refine Zg func102 rfl rfl rfl ((by apply WB <;> first | assumption | omega)) ?_
 apply Y; clear Y K
 refine Ze ?_ ?_ <;> intro hb
 ·have hres : (28 : Int) = Z8 s := by
    have : bout s.length 1 8 = true := by simpa using hb
    simp [Z8, this]
  refine ZE zs [2] ?_
  refine Zf ?_
  simp only [go_sem, seval]
  refine ⟨_, rfl, ?_, Frz.eq (by rw [hres]) trivial⟩
  intro k hk; have h0 : k ≠ n := by omega
  (simp [Heap.put, h0]; done)
 have hb8 : bout s.length 1 8 = false := by simpa using hb
 have hlen := Wn hb8
 refine Zd ?_
 simp only [go_sem, seval]
 apply hK1
 clear hK1 K1
 refine Zb fun K2 hK2 => ?_
 refine ZE zs [1, 10, 11, 12] ?_
 refine Zj ?_
 refine Zz (fun T' H' n' => ∃ i : Nat, i ≤ s.length ∧ T' = tl [(1, .loc n 0 0 0 []), (10, .sl 3 (s.map XG)), (11, .int .i64 s.length), (12, .int .i64 i)] ∧ n + 1 ≤ n' ∧ H' n = some (.arr 0 1 [Zt s]) ∧ (∀ k, k < n → H' k = H k) ∧ WT s (s.drop i) i = WT s s 0) (fun T' _ _ => s.length - iv (T' 12)) ?_ ?_
 ·refine ⟨0, Nat.zero_le _, by rw [List.length_map]; rfl, by omega, ?_, ?_, rfl⟩
  ·simp [Heap.put, Zt]
  ·intro k hk; have h0 : k ≠ n := by omega
   simp [Heap.put, h0]
 intro T1 H1 n1
 rintro ⟨i, hi, rfl, hn, hHn, hH, hix⟩
 refine ZE zs [1, 10, 11, 12, 13] ?_
 refine Zb fun K3 hK3 => ?_
 refine Ze ?_ ?_ <;> intro hb
 ·have hlt : i < s.length := by simpa using hb
  rw [ZZ s i hlt, Js] at hix
  have hn1 : (n = n1) = False := by simp; omega
  simp only [Zt] at hHn
  refine Zd ?_
  simp only [go_sem, seval]
  apply hK3
  clear hK3 K3
  refine Zb fun K4 hK4 => ?_
  refine Zj ?_
  have hnth : nth (s.map XG) i = XG (s.getD i default) := ZF XG s i hlt
  refine Za zs [1, 3, 4, 10, 11, 12] fun K Y => ?_
  simp only [go_sem, seval, Int.toNat_natCast, hnth]
  repeat refine peel ?_
  apply Y; clear Y K
  refine Za zs [1, 10, 11, 12, 38] fun K Y => ?_
  simp only [go_sem, seval, Int.toNat_natCast]
  refine Zg func103 rfl rfl rfl ((c_cell_named (s.getD i default).name _ _)) ?_
  simp only [go_sem, seval, hn1, hHn]
  refine Zv func104 rfl rfl rfl (fun _ => (Ub s (s.getD i default).name (by omega) _ _)) ?_
  simp only [go_sem, seval]
  repeat refine peel ?_
  refine Zv func102 rfl rfl rfl (fun _ => (WB (s.getD i default).max 1 16 _ _)) ?_
  simp only [go_sem, seval]
  repeat refine peel ?_
  refine Zv func102 rfl rfl rfl (fun _ => (WB (s.getD i default).ttl 0 1099511627776 _ _)) ?_
  simp only [go_sem, seval]
  repeat refine peel ?_
  apply Y; clear Y K
  refine Ze ?_ ?_ <;> intro hb
  ·have hbad : V6 s (s.getD i default) i = true := by
     simp only [V6]; cases h1 : Xq (s.getD i default).name <;> cases h2 : bout (s.getD i default).max 1 16 <;> simp_all
   have hres : (28 : Int) = Z8 s := by rw [hbad] at hix; simp [Z8, hb8, ← hix]
   refine ZE zs [2] ?_
   refine Zf ?_
   simp only [go_sem, seval]
   refine ⟨_, rfl, ?_, Frz.eq (by rw [hres]) trivial⟩
   intro k hk; have h0 : k ≠ n := by omega
   (have h1 : k ≠ n1 := (by omega); simp [Heap.put, h0, h1, hH k hk])
  have hbad : V6 s (s.getD i default) i = false := by
    simp only [V6]; cases h1 : Xq (s.getD i default).name <;> cases h2 : bout (s.getD i default).max 1 16 <;> simp_all
  rw [hbad, Bool.false_or] at hix
  refine Zd ?_
  simp only [go_sem, seval]
  apply hK4
  clear hK4 K4
  refine Zl zs [1, 10, 11, 12] fun K Y => ?_
  simp only [go_sem, seval]
  apply Y; clear Y K
  simp only [go_sem, seval]
  refine ⟨⟨i + 1, by omega, by rw [w1 (by omega)], by omega, ?_, ?_, hix⟩, by rw [w1 (by omega)]; simp; omega⟩
  ·simp [hn1, hHn, Zt]
  ·intro k hk; have h0 : k ≠ n1 := by omega
   simp [h0, hH k hk]
 have hge : i = s.length := by simp at hb; omega
 have hres : (0 : Int) = Z8 s := by rw [hge] at hix; simp [WT] at hix; simp [Z8, hb8, hix]
 refine ZA ?_
 simp only [go_sem, seval]
 apply hK2
 refine ZE zs [2] ?_
 refine Zf ?_
 simp only [go_sem, seval]
 refine ⟨_, rfl, ?_, Frz.eq (by rw [hres]) trivial⟩
 intro k hk; have h0 : k ≠ n := by omega
 exact hH k hk
theorem Wj (c : CmdE) (hc : c.fits) (h1 : 1 ≤ c.kind) (h7 : c.kind ≤ 7) (H : Heap) (n : Nat) (hG : GOK 0 2 H n) : Ret prog 55 [Zh c] H n (bys (cmdB c)) H n :=
 Ret.fin ((KI c hc h1 h7 H n hG).mono fun res H1 n1 ⟨ver, hr, hk, hn, hlow⟩ => ⟨_, hr, hlow, .osl hk (by omega) (by simp) (by
   rw [List.drop_zero, List.take_of_length_le (by simp)]; exact YA _ (YE _ n))⟩)
theorem Mg (a b : List Int) (ha : a.length ≤ 1048576) (H : Heap) (n : Nat) : Ret prog 112 [Zr a, Zr b] H n (.bool (decide (a = b))) H n := by
 refine Zc func112 rfl ntmps112 (congrArg Array.toList results112) (by simp) ?_
 simp only [go_sem]
 refine Za zs [0, 1] fun K Y => ?_
 simp only [go_sem, seval, Zr]
 apply Y; clear Y K
 refine Zb fun K1 hK1 => ?_
 refine Za zs [0, 1, 10] fun K Y => ?_
 simp only [go_sem, seval, List.length_map]
 apply Y; clear Y K
 refine Ze ?_ ?_ <;> intro hb
 ·have hne : ¬ a = b := fun e => by rw [e] at hb; simp at hb
  refine Za zs [4] fun K Y => ?_
  simp only [go_sem, seval]
  apply Y; clear Y K
  refine Zf ?_
  simp only [go_sem, seval]
  simp [hne]
 have hl : a.length = b.length := by simp at hb; omega
 refine Zd ?_
 simp only [go_sem, seval]
 apply hK1
 clear hK1 K1
 refine Zb fun K2 hK2 => ?_
 refine Za zs [0, 1, 12, 13] fun K Y => ?_
 simp only [go_sem, seval, List.length_map]
 apply Y; clear Y K
 refine Zj ?_
 refine Zz (fun T' H' n' => ∃ i : Nat, i ≤ a.length ∧ T' = tl [(0, .sl 1 (a.map fun x => .int .i64 x)), (1, .sl 1 (b.map fun x => .int .i64 x)), (12, .int .i64 a.length), (13, .int .i64 i)] ∧ H' = H ∧ n' = n ∧ (a.drop i = b.drop i ↔ a = b)) (fun T' _ _ => a.length - iv (T' 13)) ?_ ?_
 ·exact ⟨0, Nat.zero_le _, rfl, rfl, rfl, by simp⟩
 intro T1 H1 n1
 rintro ⟨i, hi, rfl, rfl, rfl, hix⟩
 refine Za zs [0, 1, 12, 13, 14] fun K Y => ?_
 simp only [go_sem, seval]
 apply Y; clear Y K
 refine Zb fun K3 hK3 => ?_
 refine Ze ?_ ?_ <;> intro hb
 ·have hlt : i < a.length := by simpa using hb
  have hlt2 : i < b.length := by omega
  rw [ZZ a i hlt, ZZ b i hlt2, List.cons.injEq] at hix
  have hn1 : nth (a.map fun x => AV.int .i64 x) i = .int .i64 (a.getD i default) := ZF (fun x => AV.int .i64 x) a i hlt
  have hn2 : nth (b.map fun x => AV.int .i64 x) i = .int .i64 (b.getD i default) := ZF (fun x => AV.int .i64 x) b i hlt2
  refine Zd ?_
  simp only [go_sem, seval]
  apply hK3
  clear hK3 K3
  refine Zb fun K4 hK4 => ?_
  refine Zj ?_
  refine Za zs [0, 1, 5, 12, 13] fun K Y => ?_
  simp only [go_sem, seval]
  apply Y; clear Y K
  refine YJ rfl zs [0, 1, 12, 13, 24] [.m, .m, .q, .q, .m, .m, .q, .q, .q] (by kernel_rfl) (fun _ _ _ _ _ h => h) fun K Y => ?_
  simp only [go_sem, seval, List.length_map, Int.toNat_natCast, hn1, hn2]
  repeat refine peel ?_
  apply Y; clear Y K
  refine Ze ?_ ?_ <;> intro hb
  ·have hne : ¬ a = b := fun e => by rw [← hix] at e; have := e.1; simp_all
   refine Za zs [4] fun K Y => ?_
   simp only [go_sem, seval]
   apply Y; clear Y K
   refine Zf ?_
   simp only [go_sem, seval]
   simp [hne]
  have hx : a.getD i default = b.getD i default := by simp at hb; simpa using hb
  have hnext : (a.drop (i + 1) = b.drop (i + 1)) ↔ a = b := by rw [← hix]; simp only [hx, true_and]
  refine Zd ?_
  simp only [go_sem, seval]
  apply hK4
  clear hK4 K4
  refine Zl zs [0, 1, 12, 13] fun K Y => ?_
  simp only [go_sem, seval]
  apply Y; clear Y K
  simp only [go_sem, seval]
  exact ⟨⟨i + 1, by omega, by rw [w1 (by omega)], hnext⟩, by rw [w1 (by omega)]; simp; omega⟩
 have hge : i = a.length := by simp at hb; omega
 have heq : a = b := by rw [← hix, hge, List.drop_length, hl, List.drop_length]
 refine ZA ?_
 simp only [go_sem, seval]
 apply hK2
 refine Za zs [4] fun K Y => ?_
 simp only [go_sem, seval]
 apply Y; clear Y K
 refine Zf ?_
 simp only [go_sem, seval]
 simp [heq]
set_option maxRecDepth 100000 in
set_option maxHeartbeats 1600000 in
theorem VX (a b : QryE) (ha : a.fams.length ≤ 1048576) (H : Heap) (n : Nat) : Ret prog 54 [Zq a, Zq b] H n (.bool (decide (a = b))) H n := by
 refine Ret.fin ?_
 refine Zc func54 rfl ntmps54 (congrArg Array.toList results54) (by simp) ?_
 simp only [go_sem]
 refine Za zs [2, 3] fun K Y => ?_
 simp only [go_sem, seval, Zq, Zr]
 apply Y; clear Y K
 refine Za zs [4] fun K Y => ?_
 simp only [go_sem, seval]
 refine Zg func77 rfl rfl rfl ((Yk a.frm b.frm _ _)) ?_
 simp only [go_sem, seval]
 refine Zv func77 rfl rfl rfl (fun _ => (Yk a.to b.to _ _)) ?_
 simp only [go_sem, seval]
 repeat refine peel ?_
 refine Zv func112 rfl rfl rfl (fun _ => (Mg a.fams b.fams ha _ _)) ?_
 simp only [go_sem, seval]
 repeat refine peel ?_
 refine Zv func77 rfl rfl rfl (fun _ => (Yk a.pre b.pre _ _)) ?_
 simp only [go_sem, seval]
 repeat refine peel ?_
 refine Zv func77 rfl rfl rfl (fun _ => (Yk a.token b.token _ _)) ?_
 simp only [go_sem, seval]
 repeat refine peel ?_
 apply Y; clear Y K
 refine Zf ?_
 simp only [go_sem, seval]
 refine ⟨_, rfl, ?_, Frz.eq ?_ trivial⟩
 ·intro k hk; have h0 : k ≠ n := by omega
  have h1 : ∀ j, k ≠ n + j := fun j => by omega
  simp [Heap.put, h0, h1]
 ·congr 1
  cases a; cases b
  rw [Bool.eq_iff_iff]
  simp only [QryE.mk.injEq, decide_eq_true_eq, Bool.cond_false_right, Bool.and_eq_true, beq_iff_eq, and_assoc]
end Go.Proofs.YtifnhpmeoogedaaGreatDoor
namespace Go.Rt
open Go Go.Sx
def zq : QryE := ⟨[], [], [], [], 0, 0, 0, false, [], []⟩
def cb3 (c : CmdE) : Bool := bout c.client (if ZQ c.kind then 1 else 0) (if ZQ c.kind || YQ c.kind then 1099511627776 else 0)
def cb4 (c : CmdE) : Bool := bif bout c.serial 0 1099511627776 then true else !((c.serial == 0) == (c.client == 0))
def cb5 (c : CmdE) : Bool := bif (bif kOps c.kind then bout c.row.length 1 256 else false) then true else (bif !kOps c.kind then decide (0 < (c.row.length : Int)) else false)
def cb6 (nf : Nat) (c : CmdE) : Bool := bif (bif (bif !kOps c.kind then decide (0 < (c.conds.length : Int)) else false) then true else decide (8 < (c.conds.length : Int))) then true else !(c.conds.all (XB nf))
def cb7 (c : CmdE) : Bool := bif (bif kOps c.kind then bout c.ops.length 1 16 else false) then true else (bif !kOps c.kind then decide (0 < (c.ops.length : Int)) else false)
def cb8 (nf : Nat) (c : CmdE) : Bool := !(c.ops.all (opOK nf))
def cb9 (c : CmdE) : Bool := bif (bif decide (Yn c.kind < 0) then c.n != 0 else false) then true else (bif decide (0 ≤ Yn c.kind) then bout c.n (Yn c.kind) 1099511627776 else false)
def WY (c : CmdE) : Int := if decide (98304 < ((cmdB c).length : Int)) then 2 else 0
def ZB (qc : Int) (s : List Fml) (c : CmdE) : Int :=
 if Z8 s != 0 then 28
 else if bout c.kind 1 7 then 141
 else if cb3 c then 142
 else if cb4 c then 143
 else if cb5 c then 20
 else if cb6 s.length c then 146
 else if cb7 c then 144
 else if cb8 s.length c then 145
 else if cb9 c then 148
 else if Yd c.kind then (if qc != 0 then qc else WY c)
 else if !decide (c.q = zq) then 130
 else WY c
def ruL (b : List UInt8) (p : Nat) : Nat → Nat → Nat × Nat × Int
 | 0, _ => (0, 0, 13)
 | f + 1, v =>
   if b.length ≤ p + (9 - f) then (0, 0, 10)
   else if (9 - f = 9) ∧ 1 < (b.getD (p + (9 - f)) 0).toNat then (0, 0, 13)
   else if (b.getD (p + (9 - f)) 0).toNat < 128 then
     (if (b.getD (p + (9 - f)) 0).toNat = 0 ∧ 0 < 9 - f then (0, 0, 11) else (v + (b.getD (p + (9 - f)) 0).toNat % 128 * 2 ^ (7 * (9 - f)), p + (9 - f) + 1, 0))
   else ruL b p f (v + (b.getD (p + (9 - f)) 0).toNat % 128 * 2 ^ (7 * (9 - f)))
def ruB (b : List UInt8) (p : Nat) : Nat × Nat × Int := if b.length < p then (0, 0, 1) else ruL b p 10 0
def rbB (b : List UInt8) (p most : Nat) : List UInt8 × Nat × Int :=
 if b.length < p then ([], 0, 1)
 else if (ruB b p).2.2 ≠ 0 then ([], 0, (ruB b p).2.2)
 else if most < (ruB b p).1 then ([], 0, 13)
 else if b.length - (ruB b p).2.1 < (ruB b p).1 then ([], 0, 10)
 else ((b.drop (ruB b p).2.1).take (ruB b p).1, (ruB b p).2.1 + (ruB b p).1, 0)
theorem ruL_lt (b : List UInt8) (p : Nat) : ∀ (f v : Nat), f ≤ 10 → v < 2 ^ (7 * (10 - f)) → (ruL b p f v).1 < 18446744073709551616 ∧ ((ruL b p f v).2.2 = 0 → (ruL b p f v).2.1 ≤ b.length ∧ p < (ruL b p f v).2.1) ∧ (ruL b p f v).2.1 ≤ b.length + p
 | 0, v, _, _ => by simp [ruL]
 | f + 1, v, hf, hv => by
   unfold ruL
   have hc := (b.getD (p + (9 - f)) 0).toNat_lt
   split
   ·simp
   ·rename_i h1
    split
    ·simp
    ·rename_i h2
     have e1 : 10 - (f + 1) = 9 - f := by omega
     rw [e1] at hv
     split
     ·rename_i h3
      split
      ·simp
      ·refine ⟨?_, fun _ => ⟨by show p + (9 - f) + 1 ≤ b.length; omega, by show p < p + (9 - f) + 1; omega⟩, by show p + (9 - f) + 1 ≤ b.length + p; omega⟩
       show v + (b.getD (p + (9 - f)) 0).toNat % 128 * 2 ^ (7 * (9 - f)) < 18446744073709551616
       rcases Nat.lt_or_ge 0 f with h0 | h0
       ·have h4 : 2 ^ (7 * (9 - f)) ≤ 2 ^ 56 := Nat.pow_le_pow_right (by omega) (by omega)
        have h5 : (b.getD (p + (9 - f)) 0).toNat % 128 * 2 ^ (7 * (9 - f)) ≤ 127 * 2 ^ 56 := Nat.mul_le_mul (by omega) h4
        omega
       ·have h6 : f = 0 := by omega
        subst h6
        have h7 : (b.getD (p + (9 - 0)) 0).toNat ≤ 1 := by
          rcases Nat.lt_or_ge 1 (b.getD (p + (9 - 0)) 0).toNat with h | h
          ·exact absurd ⟨rfl, h⟩ h2
          ·exact h
        have h5 : (b.getD (p + (9 - 0)) 0).toNat % 128 * 2 ^ (7 * (9 - 0)) ≤ 1 * 2 ^ 63 := Nat.mul_le_mul (by omega) (by omega)
        omega
     ·rename_i h3
      refine ruL_lt b p f _ (by omega) ?_
      rcases Nat.lt_or_ge 0 f with h0 | h0
      ·have e2 : 7 * (10 - f) = 7 * (9 - f) + 7 := by omega
       rw [e2, Nat.pow_add]
       have h5 : (b.getD (p + (9 - f)) 0).toNat % 128 * 2 ^ (7 * (9 - f)) ≤ 127 * 2 ^ (7 * (9 - f)) := Nat.mul_le_mul_right _ (by omega)
       omega
      ·have h6 : f = 0 := by omega
       subst h6
       exfalso
       refine h2 ⟨rfl, by omega⟩
theorem Lm (b : List UInt8) (p : Nat) : (ruB b p).1 < 18446744073709551616 ∧ ((ruB b p).2.2 = 0 → (ruB b p).2.1 ≤ b.length ∧ p < (ruB b p).2.1) ∧ (ruB b p).2.1 ≤ b.length + p := by
 unfold ruB; split
 ·simp
 ·exact ruL_lt b p 10 0 (by omega) (by simp)
def Xy (b : List UInt8) (p : Nat) : Option (Int × Nat) := if b.length ≤ p then none else some (((b.getD p 0).toNat : Int), p + 1)
def YC (b : List UInt8) (p : Nat) : Option (Int × Nat) := if (ruB b p).2.2 ≠ 0 then none else if 9223372036854775807 < (ruB b p).1 then none else some (((ruB b p).1 : Int), (ruB b p).2.1)
def YH (b : List UInt8) (p : Nat) : Option (List UInt8 × Nat) := if (rbB b p b.length).2.2 ≠ 0 then none else some ((rbB b p b.length).1, (rbB b p b.length).2.1)
def be8 (l : List UInt8) : Nat := l.foldl (fun n c => n * 256 + c.toNat) 0
def Vm (b : List UInt8) (p : Nat) : Option (Int × Nat) := if b.length < p + 8 then none else some (IntKind.i64.wrap (be8 ((b.drop p).take 8) : Int), p + 8)
def Vn (b : List UInt8) (p : Nat) : Option (Nat × Nat) := (YC b p).bind fun x => if b.length < x.2 + x.1.toNat then none else some (x.1.toNat, x.2)
def YS (b : List UInt8) (p : Nat) : Option (YF × Nat) :=
 (Xy b p).bind fun k => (Xy b k.2).bind fun f => (YH b f.2).bind fun q => (YH b q.2).bind fun v => some (⟨k.1, f.1, q.1, v.1⟩, v.2)
def rdOp (b : List UInt8) (p : Nat) : Option (OpE × Nat) :=
 (Xy b p).bind fun k => (Xy b k.2).bind fun f => (YH b f.2).bind fun q => (YC b q.2).bind fun t => (YH b t.2).bind fun v => (Vm b v.2).bind fun d => some (⟨k.1, f.1, q.1, t.1, v.1, d.1⟩, d.2)
def Xh {α : Type} (rd : List UInt8 → Nat → Option (α × Nat)) (b : List UInt8) : Nat → Nat → List α → Option (List α × Nat)
 | 0, p, acc => some (acc, p)
 | k + 1, p, acc => (rd b p).bind fun x => Xh rd b k x.2 (acc ++ [x.1])
def Ym {α : Type} (rd : List UInt8 → Nat → Option (α × Nat)) (b : List UInt8) (p : Nat) : Option (List α × Nat) := (Vn b p).bind fun x => Xh rd b x.1 x.2 []
def Wu (b : List UInt8) (p : Nat) : Option (QryE × Nat) :=
 (YH b p).bind fun f => (YH b f.2).bind fun t => (Ym YC b t.2).bind fun l => (YH b l.2).bind fun pr => (YC b pr.2).bind fun ti => (YC b ti.2).bind fun n => (YC b n.2).bind fun r =>
 (Xy b r.2).bind fun rv => (YH b rv.2).bind fun w => (YH b w.2).bind fun tk => some (⟨f.1, t.1, l.1, pr.1, ti.1, n.1, r.1, rv.1 == 1, w.1, tk.1⟩, tk.2)
def zc : CmdE := ⟨0, 0, 0, [], [], [], 0, zq⟩
def rs1 (b : List UInt8) (p : Nat) : Option (CmdE × Nat) := (Xy b p).bind fun k => if bout k.1 1 7 then none else some ({ zc with kind := k.1 }, k.2)
def rs2 (b : List UInt8) (c : CmdE) (p : Nat) : Option (CmdE × Nat) := if ZQ c.kind || YQ c.kind then (YC b p).bind fun x => (YC b x.2).bind fun y => some ({ c with client := x.1, serial := y.1 }, y.2) else some (c, p)
def rs3 (b : List UInt8) (c : CmdE) (p : Nat) : Option (CmdE × Nat) := if kOps c.kind then (YH b p).bind fun r => (Ym YS b r.2).bind fun x => (Ym rdOp b x.2).bind fun y => some ({ c with row := r.1, conds := x.1, ops := y.1 }, y.2) else some (c, p)
def rs4 (b : List UInt8) (c : CmdE) (p : Nat) : Option (CmdE × Nat) := if 0 ≤ Yn c.kind then (YC b p).bind fun x => some ({ c with n := x.1 }, x.2) else some (c, p)
def rs5 (b : List UInt8) (c : CmdE) (p : Nat) : Option (CmdE × Nat) := if Yd c.kind then (Wu b p).bind fun x => some ({ c with q := x.1 }, x.2) else some (c, p)
def Wv (b : List UInt8) : Option CmdE := (rs1 b 0).bind fun x => (rs2 b x.1 x.2).bind fun x => (rs3 b x.1 x.2).bind fun x => (rs4 b x.1 x.2).bind fun x => (rs5 b x.1 x.2).bind fun x => if x.2 = b.length then some x.1 else none
theorem and127 (c : UInt8) : intBits .and .u8 (c.toNat : Int) 127 = ((c.toNat % 128 : Nat) : Int) := by
 have key : ∀ r : Fin 256, intBits .and .u8 ((r.1 : Nat) : Int) 127 = ((r.1 % 128 : Nat) : Int) := by decide +kernel
 exact key ⟨c.toNat, c.toNat_lt⟩
theorem or64 {x m k : Nat} (hx : x < 2 ^ k) (h : x + m * 2 ^ k < 18446744073709551616) : intBits .or .u64 (x : Int) ((m * 2 ^ k : Nat) : Int) = ((x + m * 2 ^ k : Nat) : Int) := by
 have h1 : x < 2 ^ 64 := by omega
 have h2 : m * 2 ^ k < 2 ^ 64 := by omega
 show IntKind.u64.wrap (((BitVec.ofInt 64 (x : Int)) ||| (BitVec.ofInt 64 ((m * 2 ^ k : Nat) : Int))).toNat : Int) = _
 rw [BitVec.ofInt_natCast, BitVec.ofInt_natCast, BitVec.toNat_or, BitVec.toNat_ofNat, BitVec.toNat_ofNat, Nat.mod_eq_of_lt h1, Nat.mod_eq_of_lt h2, Nat.or_comm, Nat.mul_comm m (2 ^ k), ← Nat.two_pow_add_eq_or_of_lt hx m, IntKind.wrap_u64]
 have e : 2 ^ k * m + x = x + 2 ^ k * m := by omega
 rw [e]
 have h3 : x + 2 ^ k * m < 18446744073709551616 := by rw [Nat.mul_comm]; exact h
 omega
def rdO (b : List UInt8) (p : Nat) : AObj := .arr 0 2 [.agg [bys b, .int .i64 p]]
def RdK (torn : AV) (kr : Nat) (b : List UInt8) (H : Heap) (n : Nat) (r : Option (AV × Nat)) (res : ARes) (H' : Heap) (n' : Nat) : Prop :=
 match r with
 | some x => res = .val x.1 ∧ H' = H.put kr (some (rdO b x.2)) ∧ n' = n
 | none => res = .pan torn ∧ n ≤ n' ∧ ∀ k, k < n → k ≠ kr → H' k = H k
theorem RdK.val {torn : AV} {kr : Nat} {b : List UInt8} {H : Heap} {n : Nat} {r : Option (AV × Nat)} {v : AV} {H' : Heap} {n' : Nat} (h : RdK torn kr b H n r (.val v) H' n') : ∃ p, r = some (v, p) ∧ H' = H.put kr (some (rdO b p)) ∧ n' = n := by
 cases r with
 | some x => obtain ⟨h1, h2, h3⟩ := h; cases h1; exact ⟨x.2, rfl, h2, h3⟩
 | none => cases h.1
theorem RdK.pan {torn : AV} {kr : Nat} {b : List UInt8} {H : Heap} {n : Nat} {r : Option (AV × Nat)} {v : AV} {H' : Heap} {n' : Nat} (h : RdK torn kr b H n r (.pan v) H' n') : r = none ∧ v = torn ∧ n ≤ n' ∧ ∀ k, k < n → k ≠ kr → H' k = H k := by
 cases r with
 | some x => cases h.1
 | none => obtain ⟨h1, h2⟩ := h; cases h1; exact ⟨rfl, rfl, h2⟩
theorem RdK.none {torn : AV} {kr : Nat} {b : List UInt8} {H : Heap} {n : Nat} {r : Option (AV × Nat)} {H' : Heap} {n' : Nat} (hr : r = none) (hn : n ≤ n') (h : ∀ k, k < n → k ≠ kr → H' k = H k) : RdK torn kr b H n r (.pan torn) H' n' := by subst hr; exact ⟨rfl, hn, h⟩
theorem RdK.some {torn : AV} {kr : Nat} {b : List UInt8} {H : Heap} {n : Nat} {r : Option (AV × Nat)} {v : AV} {p : Nat} {H' : Heap} {n' : Nat} (hr : r = some (v, p)) (hH : H' = H.put kr (some (rdO b p))) (hn : n' = n) : RdK torn kr b H n r (.val v) H' n' := by subst hr; exact ⟨rfl, hH, hn⟩
def rav {α : Type} (f : α → AV) (r : Option (α × Nat)) : Option (AV × Nat) := r.map fun x => (f x.1, x.2)
theorem rav_some {α : Type} {f : α → AV} {r : Option (α × Nat)} {v : AV} {p : Nat} (h : rav f r = some (v, p)) : ∃ x, r = some (x, p) ∧ v = f x := by
 cases r with
 | none => cases h
 | some y => simp only [rav, Option.map_some, Option.some.injEq, Prod.mk.injEq] at h; obtain ⟨rfl, rfl⟩ := h; exact ⟨y.1, rfl, rfl⟩
theorem rav_none {α : Type} {f : α → AV} {r : Option (α × Nat)} (h : rav f r = none) : r = none := by cases r <;> simp_all [rav]
theorem RdK.get {α : Type} {f : α → AV} {torn : AV} {kr : Nat} {b : List UInt8} {H : Heap} {n : Nat} {r : Option (α × Nat)} {v : AV} {H' : Heap} {n' : Nat} (h : RdK torn kr b H n (rav f r) (.val v) H' n') : ∃ x p, r = Option.some (x, p) ∧ v = f x ∧ H.put kr (Option.some (rdO b p)) = H' ∧ n = n' := by
 obtain ⟨p, h1, h2, h3⟩ := h.val
 obtain ⟨x, h4, h5⟩ := rav_some h1
 exact ⟨x, p, h4, h5, h2.symm, h3.symm⟩
theorem RdK.die {α : Type} {f : α → AV} {torn : AV} {kr : Nat} {b : List UInt8} {H : Heap} {n : Nat} {r : Option (α × Nat)} {v : AV} {H' : Heap} {n' : Nat} (h : RdK torn kr b H n (rav f r) (.pan v) H' n') : r = Option.none ∧ v = torn ∧ n ≤ n' ∧ ∀ k, k < n → k ≠ kr → H' k = H k :=
 let ⟨h1, h2⟩ := h.pan; ⟨rav_none h1, h2⟩
theorem XR {b : List UInt8} {p q : Nat} {x : Int} (h : Xy b p = some (x, q)) : q ≤ b.length ∧ p < q := by
 unfold Xy at h; split at h
 ·cases h
 ·simp only [Option.some.injEq, Prod.mk.injEq] at h; omega
theorem YP {b : List UInt8} {p q : Nat} {x : Int} (h : YC b p = some (x, q)) : q ≤ b.length ∧ p < q ∧ 0 ≤ x ∧ x ≤ 9223372036854775807 := by
 have h1 := Lm b p
 unfold YC at h; split at h
 ·cases h
 ·rename_i h2
  split at h
  ·cases h
  ·simp only [Option.some.injEq, Prod.mk.injEq] at h
   have h3 := h1.2.1 (by omega)
   omega
theorem rbB_le {b : List UInt8} {p m : Nat} (h : (rbB b p m).2.2 = 0) : (rbB b p m).2.1 ≤ b.length ∧ p < (rbB b p m).2.1 ∧ (rbB b p m).1.length + p < (rbB b p m).2.1 := by
 have h1 := Lm b p
 unfold rbB at h ⊢
 split at h
 ·simp at h
 ·rename_i h2
  rw [if_neg h2]
  split at h
  ·rename_i h3; exact absurd h h3
  ·rename_i h3
   have h4 := h1.2.1 (by simpa using h3)
   split at h
   ·simp at h
   ·rename_i h5
    rw [if_neg h3, if_neg h5]
    split at h
    ·simp at h
    ·rename_i h6
     rw [if_neg h6]
     simp only [List.length_take, List.length_drop]
     omega
theorem ZV {b : List UInt8} {p q : Nat} {x : List UInt8} (h : YH b p = some (x, q)) : q ≤ b.length ∧ p < q ∧ x.length + p < q := by
 unfold YH at h; split at h
 ·cases h
 ·rename_i h2
  have := rbB_le (b := b) (p := p) (m := b.length) (by simpa using h2)
  simp only [Option.some.injEq, Prod.mk.injEq] at h
  obtain ⟨rfl, rfl⟩ := h
  exact this
theorem Lx {b : List UInt8} {p q : Nat} {x : Int} (h : Vm b p = some (x, q)) : q ≤ b.length ∧ p < q := by
 unfold Vm at h; split at h
 ·cases h
 ·simp only [Option.some.injEq, Prod.mk.injEq] at h; omega
theorem WG {b : List UInt8} {p q : Nat} {x : Nat} (h : Vn b p = some (x, q)) : q + x ≤ b.length ∧ p < q := by
 unfold Vn at h
 cases hu : YC b p with
 | none => rw [hu] at h; cases h
 | some y =>
   obtain ⟨v, a⟩ := y
   have := YP hu
   rw [hu] at h
   simp only [Option.bind_some] at h
   split at h
   ·cases h
   ·simp only [Option.some.injEq, Prod.mk.injEq] at h; omega
theorem or64' {x m k : Nat} (hx : x < 2 ^ k) (h : x + m * 2 ^ k < 18446744073709551616) : intBits .or .u64 ((m * 2 ^ k : Nat) : Int) (x : Int) = ((m * 2 ^ k + x : Nat) : Int) := by
 have h1 := or64 hx h
 have h2 : intBits .or .u64 ((m * 2 ^ k : Nat) : Int) (x : Int) = intBits .or .u64 (x : Int) ((m * 2 ^ k : Nat) : Int) := by
   show IntKind.u64.wrap _ = IntKind.u64.wrap _
   rw [BitVec.or_comm]
 rw [h2, h1]; congr 1; omega
theorem be8_snoc (l : List UInt8) (c : UInt8) : be8 (l ++ [c]) = be8 l * 256 + c.toNat := by simp [be8, List.foldl_append]
theorem be8_lt' : ∀ (l : List UInt8) (n : Nat), l.foldl (fun n c => n * 256 + c.toNat) n < (n + 1) * 256 ^ l.length
 | [], n => by simp
 | c :: l, n => by
   have h := be8_lt' l (n * 256 + c.toNat)
   have hc := c.toNat_lt
   simp only [List.foldl_cons, List.length_cons, Nat.pow_succ]
   refine Nat.lt_of_lt_of_le h ?_
   have : n * 256 + c.toNat + 1 ≤ (n + 1) * 256 := by omega
   calc (n * 256 + c.toNat + 1) * 256 ^ l.length ≤ ((n + 1) * 256) * 256 ^ l.length := Nat.mul_le_mul_right _ this
     _ = (n + 1) * (256 ^ l.length * 256) := by rw [Nat.mul_assoc, Nat.mul_comm 256]
theorem be8_lt (l : List UInt8) : be8 l < 256 ^ l.length := by have := be8_lt' l 0; simpa [be8] using this
theorem Qr {α : Type} [Inhabited α] (l : List α) {i : Nat} (h : i < l.length) : l.take (i + 1) = l.take i ++ [l.getD i default] := by
 rw [List.take_succ_eq_append_getElem h]
 simp [List.getD, List.getElem?_eq_getElem h]
theorem ZY {α : Type} (rd : List UInt8 → Nat → Option (α × Nat)) (b : List UInt8) {cnt i : Nat} (h : i < cnt) (p : Nat) (acc : List α) : Xh rd b (cnt - i) p acc = (rd b p).bind fun x => Xh rd b (cnt - (i + 1)) x.2 (acc ++ [x.1]) := by
 rw [show cnt - i = (cnt - (i + 1)) + 1 by omega]; rfl
theorem RdK.fin {P : Program} {f : FuncId} {args : List AV} {torn : AV} {kr : Nat} {b : List UInt8} {H : Heap} {n : Nat} {r : Option (AV × Nat)} (hk : kr < n)
   (h : Zx P f args H n fun res H1 n' => (∃ v v' q, res = .val v ∧ r = Option.some (v', q) ∧ H1 kr = Option.some (rdO b q) ∧ (∀ k, k < n → k ≠ kr → H1 k = H k) ∧ Frz H1 n v v') ∨ (r = Option.none ∧ res = .pan torn ∧ n ≤ n' ∧ ∀ k, k < n → k ≠ kr → H1 k = H k)) :
   Zx P f args H n (RdK torn kr b H n r) :=
 Zx.finP (h.mono fun res H1 n' hd => by
   rcases hd with ⟨v, v', q, h1, h2, h3, h4, h5⟩ | ⟨h1, h2, h3, h4⟩
   ·refine .inl ⟨v, v', H.put kr (Option.some (rdO b q)), h1, fun k hk2 => ?_, fun k hk2 => ME _ _ (by omega), h5, RdK.some h2 rfl rfl⟩
    by_cases e : k = kr
    ·subst e
     rw [MG, h3]
     exact ⟨rfl, .inr fun o ho => by cases ho; exact ⟨⟨ZJ b n, trivial, trivial⟩, trivial⟩⟩
    ·rw [ME _ _ e, h4 k hk2 e]
     exact ⟨rfl, .inl rfl⟩
   ·exact .inr ⟨torn, h2, RdK.none h1 h3 h4⟩)
theorem Xl {α : Type} (f : α → AV) {n : Nat} (h : ∀ x, (f x).kl n) : ∀ l : List α, MK n (l.map f)
 | [] => trivial
 | x :: l => ⟨h x, Xl f h l⟩
theorem kl_condAV (x : YF) (n : Nat) : (Zu x).kl n := ⟨trivial, trivial, ZJ _ _, ZJ _ _, trivial⟩
theorem kl_opAV (x : OpE) (n : Nat) : (opAV x).kl n := ⟨trivial, trivial, ZJ _ _, trivial, ZJ _ _, trivial, trivial⟩
end Go.Rt
namespace Go.Proofs.YtifnhpmeoogedaaGreatDoor
open Go Go.Sx Go.Rt Go.Proofs Tryz
theorem VJ (b : List UInt8) (p : Nat) (H : Heap) (n : Nat) : Ret prog 155 [bys b, .int .i64 p] H n (.bool (decide (b.length < p))) H n := by
 refine Zc func155 rfl ntmps155 (congrArg Array.toList results155) (by simp) ?_
 simp only [go_sem]
 refine Za zs [0, 1] fun K Y => ?_
 simp only [go_sem, seval]
 apply Y; clear Y K
 refine Za zs [4] fun K Y => ?_
 simp only [go_sem, seval, List.length_map]
 repeat refine peel ?_
 apply Y; clear Y K
 refine Zf ?_
 simp only [go_sem, seval]
 have h0 : ¬ ((p : Int) < 0) := by omega
 simp [h0]
def ruAV (x : Nat × Nat × Int) : AV := .tup [.int .u64 x.1, .int .i64 x.2.1, .int .i64 x.2.2]
set_option maxHeartbeats 1600000 in
theorem Vf (b : List UInt8) (p : Nat) (hb : b.length ≤ 1099511627776) (hp : p ≤ 1099511627776) (H : Heap) (n : Nat) : Ret prog 128 [bys b, .int .i64 p] H n (ruAV (ruB b p)) H n := by
 refine Zc func128 rfl ntmps128 (congrArg Array.toList results128) (by simp) ?_
 simp only [go_sem]
 refine Za zs [0, 1] fun K Y => ?_
 simp only [go_sem, seval]
 apply Y; clear Y K
 refine Zb fun K1 hK1 => ?_
 refine Za zs [0, 1, 12] fun K Y => ?_
 simp only [go_sem, seval]
 refine Zg func155 rfl rfl rfl ((VJ b p _ _)) ?_
 apply Y; clear Y K
 refine Ze ?_ ?_ <;> intro hb
 ·have h1 : b.length < p := of_decide_eq_true hb
  have hres : ruB b p = (0, 0, 1) := by unfold ruB; rw [if_pos h1]
  refine Za zs [4, 5, 6] fun K Y => ?_
  simp only [go_sem, seval]
  apply Y; clear Y K
  refine Zf ?_
  simp only [go_sem, seval]
  (rw [hres]; rfl)
 have h1 : ¬ b.length < p := of_decide_eq_false hb
 have hru : ruB b p = ruL b p 10 0 := by unfold ruB; rw [if_neg h1]
 refine Zd ?_
 simp only [go_sem, seval]
 apply hK1
 clear hK1 K1
 refine Za zs [0, 1, 7] fun K Y => ?_
 simp only [go_sem, seval]
 apply Y; clear Y K
 refine Za zs [0, 1, 7, 8] fun K Y => ?_
 simp only [go_sem, seval]
 apply Y; clear Y K
 refine Zj ?_
 refine Zz (fun T' H' n' => ∃ f v : Nat, f ≤ 9 ∧ v < 2 ^ (7 * (9 - f)) ∧ T' = tl [(0, bys b), (1, .int .i64 p), (7, .int .u64 v), (8, .int .i64 (9 - f : Nat))] ∧ H' = H ∧ n' = n ∧ ruL b p (f + 1) v = ruB b p) (fun T' _ _ => 9 - iv (T' 8)) ?_ ?_
 ·exact ⟨9, 0, by omega, by simp, rfl, rfl, rfl, hru.symm⟩
 intro T1 H1 n1
 rintro ⟨f, v, hf, hv, rfl, rfl, rfl, hix⟩
 refine Zb fun K2 hK2 => ?_
 refine Zj ?_
 refine Zb fun K3 hK3 => ?_
 have e1 : IntKind.i64.wrap ((p : Int) + ((9 - f : Nat) : Int)) = ((p + (9 - f) : Nat) : Int) := by rw [w64 (by omega) (by omega)]; omega
 unfold ruL at hix
 refine Za zs [0, 1, 7, 8, 20] fun K Y => ?_
 simp only [go_sem, seval, List.length_map, e1]
 apply Y; clear Y K
 refine Ze ?_ ?_ <;> intro hb
 ·have hlt : b.length ≤ p + (9 - f) := by have := of_decide_eq_true hb; omega
  have hres : ruB b p = (0, 0, 10) := by rw [← hix, if_pos hlt]
  refine Za zs [4, 5, 6] fun K Y => ?_
  simp only [go_sem, seval]
  apply Y; clear Y K
  refine Zf ?_
  simp only [go_sem, seval]
  (rw [hres]; rfl)
 have hlt : ¬ b.length ≤ p + (9 - f) := by have := of_decide_eq_false hb; omega
 rw [if_neg hlt] at hix
 have hnth : nth (b.map Zn) (p + (9 - f)) = Zn (b.getD (p + (9 - f)) 0) := ZF Zn b _ (by omega)
 generalize b.getD (p + (9 - f)) 0 = c at *
 have hcl := c.toNat_lt
 refine Zd ?_
 simp only [go_sem, seval]
 apply hK3
 clear hK3 K3
 refine Za zs [0, 1, 7, 8, 9] fun K Y => ?_
 simp only [go_sem, seval, List.length_map, e1, hnth, Int.toNat_natCast, Zn]
 repeat refine peel ?_
 apply Y; clear Y K
 refine Zb fun K4 hK4 => ?_
 refine Za zs [0, 1, 7, 8, 9, 32] fun K Y => ?_
 simp only [go_sem, seval]
 repeat refine peel ?_
 apply Y; clear Y K
 refine Ze ?_ ?_ <;> intro hb
 ·have h3 : (9 - f = 9) ∧ 1 < c.toNat := by cases h : decide (((9 - f : Nat) : Int) = 9) <;> simp_all <;> omega
  have hres : ruB b p = (0, 0, 13) := by rw [← hix, if_pos h3]
  refine Za zs [4, 5, 6] fun K Y => ?_
  simp only [go_sem, seval]
  apply Y; clear Y K
  refine Zf ?_
  simp only [go_sem, seval]
  (rw [hres]; rfl)
 have h3 : ¬ ((9 - f = 9) ∧ 1 < c.toNat) := by rintro ⟨h4, h5⟩; simp [h4] at hb; omega
 rw [if_neg h3] at hix
 refine Zd ?_
 simp only [go_sem, seval]
 apply hK4
 clear hK4 K4
 have e2 : IntKind.i64.wrap (7 * ((9 - f : Nat) : Int)) = ((7 * (9 - f) : Nat) : Int) := by rw [w64 (by omega) (by omega)]; omega
 have e3 : IntKind.u64.wrap ((c.toNat % 128 : Nat) : Int) = ((c.toNat % 128 : Nat) : Int) := by rw [IntKind.wrap_u64]; omega
 have hm : c.toNat % 128 * 2 ^ (7 * (9 - f)) ≤ 127 * 2 ^ 56 ∨ c.toNat % 128 * 2 ^ (7 * (9 - f)) ≤ 1 * 2 ^ 63 := by
   rcases Nat.lt_or_ge 0 f with h0 | h0
   ·exact .inl (Nat.mul_le_mul (by omega) (Nat.pow_le_pow_right (by omega) (by omega)))
   ·exact .inr (Nat.mul_le_mul (by omega) (Nat.pow_le_pow_right (by omega) (by omega)))
 have hv2 : v < 9223372036854775808 := Nat.lt_of_lt_of_le hv (Nat.pow_le_pow_right (by omega) (show 7 * (9 - f) ≤ 63 by omega))
 have e4 : IntKind.u64.wrap (((c.toNat % 128 : Nat) : Int) * 2 ^ (min (7 * (9 - f)) 64)) = ((c.toNat % 128 * 2 ^ (7 * (9 - f)) : Nat) : Int) := by
   rw [show min (7 * (9 - f)) 64 = 7 * (9 - f) by omega, IntKind.wrap_u64]
   have : ((c.toNat % 128 : Nat) : Int) * 2 ^ (7 * (9 - f)) = ((c.toNat % 128 * 2 ^ (7 * (9 - f)) : Nat) : Int) := by simp
   rw [this]; omega
 have e5 := or64 (x := v) (m := c.toNat % 128) (k := 7 * (9 - f)) hv (by omega)
 refine Za zs [0, 1, 7, 8, 9] fun K Y => ?_
 simp only [go_sem, seval, and127, e2, e3, e4, e5, Int.toNat_natCast]
 repeat refine peel ?_
 apply Y; clear Y K
 refine Za zs [0, 1, 7, 8, 9, 42] fun K Y => ?_
 simp only [go_sem, seval]
 apply Y; clear Y K
 refine Ze ?_ ?_ <;> intro hb
 ·have h4 : c.toNat < 128 := by have := of_decide_eq_true hb; omega
  rw [if_pos h4] at hix
  refine Zb fun K5 hK5 => ?_
  refine Za zs [1, 7, 8, 48] fun K Y => ?_
  simp only [go_sem, seval]
  repeat refine peel ?_
  apply Y; clear Y K
  refine Ze ?_ ?_ <;> intro hb
  ·have h5 : c.toNat = 0 ∧ 0 < 9 - f := by cases h : decide ((c.toNat : Int) = 0) <;> simp_all <;> omega
   have hres : ruB b p = (0, 0, 11) := by rw [← hix, if_pos h5]
   refine Za zs [4, 5, 6] fun K Y => ?_
   simp only [go_sem, seval]
   apply Y; clear Y K
   refine Zf ?_
   simp only [go_sem, seval]
   (rw [hres]; rfl)
  have h5 : ¬ (c.toNat = 0 ∧ 0 < 9 - f) := by rintro ⟨h6, h7⟩; simp [h6] at hb; omega
  rw [if_neg h5] at hix
  have e6 : IntKind.i64.wrap (((p + (9 - f) : Nat) : Int) + 1) = ((p + (9 - f) + 1 : Nat) : Int) := by rw [w64 (by omega) (by omega)]; omega
  refine Zd ?_
  simp only [go_sem, seval]
  apply hK5
  clear hK5 K5
  refine Za zs [4, 5, 6] fun K Y => ?_
  simp only [go_sem, seval, e1, e6]
  apply Y; clear Y K
  refine Zf ?_
  simp only [go_sem, seval]
  (rw [← hix]; rfl)
 have h4 : ¬ c.toNat < 128 := by have := of_decide_eq_false hb; omega
 rw [if_neg h4] at hix
 have hf0 : 0 < f := Nat.pos_of_ne_zero fun h0 => h3 ⟨by omega, by omega⟩
 obtain ⟨g, rfl⟩ : ∃ g, f = g + 1 := ⟨f - 1, by omega⟩
 have e8 : 9 - (g + 1) = 8 - g := by omega
 rw [e8] at hix hv
 have e7 : IntKind.i64.wrap (((8 - g : Nat) : Int) + 1) = ((9 - g : Nat) : Int) := by rw [w64 (by omega) (by omega)]; omega
 refine Zd ?_
 simp only [go_sem, seval]
 apply hK2
 clear hK2 K2
 refine Zl zs [0, 1, 7, 8] fun K Y => ?_
 simp only [go_sem, seval, e7]
 apply Y; clear Y K
 simp only [go_sem, seval]
 refine ⟨⟨g, v + c.toNat % 128 * 2 ^ (7 * (8 - g)), by omega, ?_, rfl, hix⟩, by simp [iv]; omega⟩
 have h6 : 7 * (9 - g) = 7 * (8 - g) + 7 := by omega
 rw [h6, Nat.pow_add]
 have h7 : c.toNat % 128 * 2 ^ (7 * (8 - g)) ≤ 127 * 2 ^ (7 * (8 - g)) := Nat.mul_le_mul_right _ (by omega)
 omega
theorem Mq (x : UInt8) (b : List UInt8) (hb9 : b.length ≤ 1099511627776) (H : Heap) (n : Nat) : Ret prog 156 [bys (x :: b)] H n (bys (x :: b)) H n := by
 refine Ret.fin ?_
 refine Zc func156 rfl ntmps156 (congrArg Array.toList results156) (by simp) ?_
 simp only [go_sem]
 refine Za zs [0] fun K Y => ?_
 simp only [go_sem, seval]
 apply Y; clear Y K
 refine Zb fun K1 hK1 => ?_
 refine Za zs [0, 4] fun K Y => ?_
 simp only [go_sem, seval, List.length_map, List.length_cons]
 repeat refine peel ?_
 apply Y; clear Y K
 refine Ze ?_ ?_ <;> intro hb
 ·exact absurd hb (by simp)
  --dead
 refine Zd ?_
 simp only [go_sem, seval]
 apply hK1
 clear hK1 K1
 refine Za zo [2] fun K Y => ?_
 simp only [go_sem, seval, List.length_map, List.length_cons]
 repeat (first | refine peel ?_ | refine ⟨by (simp; omega), ?_⟩)
 apply Y; clear Y K
 refine Zf ?_
 simp only [go_sem, seval]
 refine ⟨_, rfl, fun k hk => ?_, .osl (by simp [Heap.put]; rfl) (Nat.le_refl _) (by simp) (by rw [List.drop_zero, List.take_of_length_le (by simp)]; exact YA _ (YE (x :: b) n))⟩
 have h0 : k ≠ n := by omega
 simp [Heap.put, h0]
theorem Mr (H : Heap) (n : Nat) : Ret prog 156 [bys []] H n (bys []) H n := by
 refine Ret.fin ?_
 refine Zc func156 rfl ntmps156 (congrArg Array.toList results156) (by simp) ?_
 simp only [go_sem]
 refine awp_raw_sl 0 rfl fun ad cap => ?_
 simp only [go_sem]
 refine ZE zs [0] ?_
 refine Zb fun K1 hK1 => ?_
 refine ZE zs [0, 4] ?_
 refine Ze ?_ ?_ <;> intro hb
 ·refine ZE zs [2] ?_
  refine Zf ?_
  simp only [go_sem, seval]
  exact ⟨_, rfl, .nilsl⟩
  all_goals (refine ⟨_, rfl, fun k hk => ?_, .osl (els := []) (by simp [Heap.put]; first | rfl | done) (Nat.le_refl _) (by simp) .nil⟩; have h0 : k ≠ n := (by omega); simp [Heap.put, h0])
 refine Zd ?_
 simp only [go_sem, seval]
 apply hK1
 clear hK1 K1
 refine awp_wk_tmp 0 (.sl 1 []) (Wk.raw_sl ad cap 1) ?_
 simp only [go_sem]
 refine Za zo [2] fun K Y => ?_
 simp only [go_sem, seval, List.map_nil, List.length_nil]
 repeat refine peel ?_
 apply Y; clear Y K
 refine Zf ?_
 simp only [go_sem, seval]
 all_goals (refine ⟨_, rfl, fun k hk => ?_, .osl (els := []) (by simp [Heap.put]; first | rfl | done) (Nat.le_refl _) (by simp) .nil⟩; have h0 : k ≠ n := (by omega); simp [Heap.put, h0])
theorem QM (b : List UInt8) (hb : b.length ≤ 1099511627776) (H : Heap) (n : Nat) : Ret prog 156 [bys b] H n (bys b) H n := by
 cases b with
 | nil => exact Mr H n
 | cons x b => exact Mq x b (by simp at hb; omega) H n
def rbAV (x : List UInt8 × Nat × Int) : AV := .tup [bys x.1, .int .i64 x.2.1, .int .i64 x.2.2]
set_option maxHeartbeats 1600000 in
theorem Ui (b : List UInt8) (p most : Nat) (hb9 : b.length ≤ 1099511627776) (hp : p ≤ 1099511627776) (hm : most ≤ 1099511627776) (H : Heap) (n : Nat) : Ret prog 130 [bys b, .int .i64 p, .int .i64 most] H n (rbAV (rbB b p most)) H n := by
 obtain ⟨hu1, hu2, hu3⟩ := Lm b p
 have hum : u64 (most : Int) = most := XD _ (by omega)
 refine Ret.fin ?_
 refine Zc func130 rfl ntmps130 (congrArg Array.toList results130) (by simp) ?_
 simp only [go_sem]
 refine Za zs [0, 1, 2] fun K Y => ?_
 simp only [go_sem, seval]
 apply Y; clear Y K
 refine Zb fun K1 hK1 => ?_
 refine Za zs [0, 1, 2, 18] fun K Y => ?_
 simp only [go_sem, seval]
 refine Zg func155 rfl rfl rfl ((VJ b p _ _)) ?_
 simp only [go_sem, seval]
 repeat refine peel ?_
 apply Y; clear Y K
 refine Ze ?_ ?_ <;> intro hb
 ·have h1 : b.length < p := by have h0 : ¬ ((most : Int) < 0) := (by omega); simp [h0] at hb; exact hb
  have hres : rbB b p most = ([], 0, 1) := by unfold rbB; rw [if_pos h1]
  refine Za zs [6, 7, 8] fun K Y => ?_
  simp only [go_sem, seval]
  apply Y; clear Y K
  refine Zf ?_
  simp only [go_sem, seval]
  refine ⟨_, rfl, ?_⟩
  rw [hres]
  exact .tup (.cons .nilsl (.cons (.kl trivial) (.cons (.kl trivial) .nil)))
 have h1 : ¬ b.length < p := by have h0 : ¬ ((most : Int) < 0) := (by omega); simp [h0] at hb; omega
 refine Zd ?_
 simp only [go_sem, seval]
 apply hK1
 clear hK1 K1
 refine Za zs [0, 1, 2, 9, 10] fun K Y => ?_
 simp only [go_sem, seval]
 refine Zg func128 rfl rfl rfl ((Vf b p hb9 hp _ _)) ?_
 simp only [go_sem, seval, ruAV]
 apply Y; clear Y K
 refine Zb fun K2 hK2 => ?_
 refine Zj ?_
 refine Za zs [0, 1, 2, 9, 10, 26] fun K Y => ?_
 simp only [go_sem, seval]
 apply Y; clear Y K
 refine Ze ?_ ?_ <;> intro hb
 ·have h2 : (ruB b p).2.2 ≠ 0 := by simpa using hb
  have hres : rbB b p most = ([], 0, (ruB b p).2.2) := by unfold rbB; rw [if_neg h1, if_pos h2]
  refine Za zs [6, 7, 8] fun K Y => ?_
  simp only [go_sem, seval]
  apply Y; clear Y K
  refine Zf ?_
  simp only [go_sem, seval]
  refine ⟨_, rfl, ?_⟩
  rw [hres]
  exact .tup (.cons .nilsl (.cons (.kl trivial) (.cons (.kl trivial) .nil)))
 have h2 : (ruB b p).2.2 = 0 := by simpa using hb
 have hu4 := hu2 h2
 refine Za zs [0, 1, 9, 30] fun K Y => ?_
 simp only [go_sem, seval, YK, hum]
 apply Y; clear Y K
 refine Ze ?_ ?_ <;> intro hb
 ·have h3 : most < (ruB b p).1 := by have := of_decide_eq_true hb; omega
  have hres : rbB b p most = ([], 0, 13) := by unfold rbB; rw [if_neg h1, if_neg (by simp [h2]), if_pos h3]
  refine Za zs [6, 7, 8] fun K Y => ?_
  simp only [go_sem, seval]
  apply Y; clear Y K
  refine Zf ?_
  simp only [go_sem, seval]
  refine ⟨_, rfl, ?_⟩
  rw [hres]
  exact .tup (.cons .nilsl (.cons (.kl trivial) (.cons (.kl trivial) .nil)))
 have h3 : ¬ most < (ruB b p).1 := by have := of_decide_eq_false hb; omega
 have e1 : IntKind.i64.wrap ((b.length : Int) - ((ruB b p).2.1 : Int)) = ((b.length - (ruB b p).2.1 : Nat) : Int) := by rw [w64 (by omega) (by omega)]; omega
 have e2 : u64 ((b.length - (ruB b p).2.1 : Nat) : Int) = b.length - (ruB b p).2.1 := XD _ (by omega)
 refine Za zs [0, 1, 9, 35] fun K Y => ?_
 simp only [go_sem, seval, List.length_map, YK, e1, e2]
 apply Y; clear Y K
 refine Ze ?_ ?_ <;> intro hb
 ·have h4 : b.length - (ruB b p).2.1 < (ruB b p).1 := by have := of_decide_eq_true hb; omega
  have hres : rbB b p most = ([], 0, 10) := by unfold rbB; rw [if_neg h1, if_neg (by simp [h2]), if_neg h3, if_pos h4]
  refine Za zs [6, 7, 8] fun K Y => ?_
  simp only [go_sem, seval]
  apply Y; clear Y K
  refine Zf ?_
  simp only [go_sem, seval]
  refine ⟨_, rfl, ?_⟩
  rw [hres]
  exact .tup (.cons .nilsl (.cons (.kl trivial) (.cons (.kl trivial) .nil)))
 have h4 : ¬ b.length - (ruB b p).2.1 < (ruB b p).1 := by have := of_decide_eq_false hb; omega
 have hres : rbB b p most = ((b.drop (ruB b p).2.1).take (ruB b p).1, (ruB b p).2.1 + (ruB b p).1, 0) := by unfold rbB; rw [if_neg h1, if_neg (by simp [h2]), if_neg h3, if_neg h4]
 have e3 : IntKind.i64.wrap ((ruB b p).1 : Int) = ((ruB b p).1 : Int) := w64 (by omega) (by omega)
 have e4 : IntKind.i64.wrap (((ruB b p).2.1 : Int) + ((ruB b p).1 : Int)) = (((ruB b p).2.1 + (ruB b p).1 : Nat) : Int) := by rw [w64 (by omega) (by omega)]; omega
 have e5 : List.drop (ruB b p).2.1 (List.take ((ruB b p).2.1 + (ruB b p).1) (b.map Zn)) = ((b.drop (ruB b p).2.1).take (ruB b p).1).map Zn := by rw [List.take_add, List.drop_append_of_le_length (by simp; omega), List.drop_take_self, List.nil_append, ← List.map_drop, ← List.map_take]
 refine Zd ?_
 simp only [go_sem, seval]
 apply hK2
 clear hK2 K2
 refine Za zs [0, 1, 11] fun K Y => ?_
 simp only [go_sem, seval, e3, e4]
 apply Y; clear Y K
 refine Za zs [6, 7, 8] fun K Y => ?_
 simp only [go_sem, seval, List.length_map, e5, Option.getD_some, Int.toNat_natCast]
 repeat (first | refine peel ?_ | refine ⟨by exact ⟨by omega, by omega, by omega, fun m h => h.elim⟩, ?_⟩)
 refine Zg func156 rfl rfl rfl ((QM ((b.drop (ruB b p).2.1).take (ruB b p).1) (by simp; omega) _ _)) ?_
 simp only [go_sem, seval]
 apply Y; clear Y K
 refine Zf ?_
 simp only [go_sem, seval]
 refine ⟨_, rfl, ?_⟩
 rw [hres]
 exact .kl ⟨kl_bys _ _, trivial, trivial, trivial⟩
def torn : AV := .iface 119 (.agg [])
theorem Vj (kr : Nat) (e : Int) (H : Heap) (n : Nat) : Zx prog 129 [.loc kr 0 0 0 [], .int .i64 e] H n fun res H' n' => H' = H ∧ n' = n ∧ (e = 0 → res = .val (.tup [])) ∧ (e ≠ 0 → res = .pan torn) := by
 refine Zc func129 rfl ntmps129 (congrArg Array.toList results129) (by simp) ?_
 simp only [go_sem]
 refine ZE zs [5] ?_
 refine Ze ?_ ?_ <;> intro hb
 ·have h1 : e ≠ 0 := by simpa using hb
  refine VM zs 2 rfl trivial ?_
  simp only [go_sem, seval]
  repeat refine peel ?_
  exact fun _ => rfl
 have h1 : e = 0 := by simpa using hb
 refine Zd ?_
 simp only [go_sem, seval]
 exact fun h => absurd h1 h
theorem Yf {b : List UInt8} {p kr : Nat} (hb9 : b.length ≤ 1099511627776) (hp : p ≤ b.length) {H : Heap} {n : Nat} (hR : H kr = some (rdO b p)) : Zx prog 67 [.loc kr 0 0 0 []] H n (RdK torn kr b H n (rav (.int .i64 ·) (Xy b p))) := by
 have hR1 := hR
 unfold rdO at hR1
 have e1 : IntKind.i64.wrap ((p : Int) + 1) = ((p + 1 : Nat) : Int) := by rw [w64 (by omega) (by omega)]; omega
 have e2 : IntKind.i64.wrap (((p + 1 : Nat) : Int) - 1) = (p : Int) := by rw [w64 (by omega) (by omega)]; omega
 refine Zc func67 rfl ntmps67 (congrArg Array.toList results67) (by simp) ?_
 simp only [go_sem]
 refine Za zs [0] fun K Y => ?_
 simp only [go_sem, seval]
 apply Y; clear Y K
 refine Zb fun K1 hK1 => ?_
 refine YJ rfl zs [0, 12] [.m, .q, .q, .q, .m, .q, .q, .q, .q, .q] (by kernel_rfl) (fun _ _ _ _ _ h => h) fun K Y => ?_
 simp only [go_sem, seval, hR1, List.length_map]
 apply Y; clear Y K
 refine Ze ?_ ?_ <;> intro hb
 ·have h1 : b.length ≤ p := by have := of_decide_eq_true hb; omega
  refine VM zs 2 rfl trivial ?_
  simp only [go_sem, seval]
  exact RdK.none (by unfold Xy; rw [if_pos h1]; rfl) (Nat.le_refl _) fun _ _ _ => rfl
 have h1 : ¬ b.length ≤ p := by have := of_decide_eq_false hb; omega
 have hnth : nth (b.map Zn) p = Zn (b.getD p 0) := ZF Zn b _ (by omega)
 have e3 : IntKind.i64.wrap (((b.getD p 0).toNat : Nat) : Int) = ((b.getD p 0).toNat : Int) := w64 (by omega) (by have := (b.getD p 0).toNat_lt; omega)
 refine Zd ?_
 simp only [go_sem, seval]
 apply hK1
 clear hK1 K1
 refine Za zs [0] fun K Y => ?_
 simp only [go_sem, seval, hR1, e1]
 apply Y; clear Y K
 refine YJ rfl zs [2] [.m, .q, .q, .q, .m, .q, .q, .q, .q, .q, .q, .q, .q] (by kernel_rfl) (fun _ _ _ _ _ h => h) fun K Y => ?_
 simp only [go_sem, seval, e2, List.length_map, hnth, Int.toNat_natCast, Zn, e3]
 repeat refine peel ?_
 apply Y; clear Y K
 refine Zf ?_
 simp only [go_sem, seval]
 exact RdK.some (by unfold Xy; rw [if_neg h1]; rfl) rfl rfl
theorem ZT {b : List UInt8} {p kr : Nat} (hb9 : b.length ≤ 1099511627776) (hp : p ≤ b.length) {H : Heap} {n : Nat} (hR : H kr = some (rdO b p)) : Zx prog 69 [.loc kr 0 0 0 []] H n (RdK torn kr b H n (rav (.int .i64 ·) (YC b p))) := by
 have hR1 := hR
 unfold rdO at hR1
 obtain ⟨hu1, hu2, hu3⟩ := Lm b p
 refine Zc func69 rfl ntmps69 (congrArg Array.toList results69) (by simp) ?_
 simp only [go_sem]
 refine Za zs [0] fun K Y => ?_
 simp only [go_sem, seval]
 apply Y; clear Y K
 refine YJ rfl zs [0, 3, 4, 5] [.m, .q, .q, .q, .m, .q, .q, .q, .c, .m, .q, .q, .q, .q, .q, .q] (by kernel_rfl) (fun _ _ _ _ _ h => h) fun K Y => ?_
 simp only [go_sem, seval, hR1]
 refine ZR func128 rfl rfl rfl (fun _ n => (Vf b p hb9 (by omega) _ _)) ?_
 simp only [go_sem, seval, ruAV]
 apply Y; clear Y K
 refine Za zs [0, 3, 4] fun K Y => ?_
 simp only [go_sem, seval]
 refine Zi (args' := [.loc kr 0 0 0 [], .int .i64 (ruB b p).2.2]) func129 rfl rfl rfl (Vj kr _ _ _) ?_ ?_
 rotate_left
 ·rintro q H' n' ⟨rfl, rfl, h1, h2⟩
  have h3 : (ruB b p).2.2 ≠ 0 := fun h => by have := h1 h; cases this
  have h4 := h2 h3
  cases h4
  exact RdK.none (by unfold YC; rw [if_pos h3]; rfl) (Nat.le_refl _) fun _ _ _ => rfl
 rintro rr H' n' ⟨rfl, rfl, h1, h2⟩
 have h3 : (ruB b p).2.2 = 0 := Classical.byContradiction fun h => by have := h2 h; cases this
 cases h1 h3
 apply Y; clear Y K
 refine Za zs [3] fun K Y => ?_
 simp only [go_sem, seval, hR1]
 apply Y; clear Y K
 refine Zb fun K1 hK1 => ?_
 refine Za zs [3, 27] fun K Y => ?_
 simp only [go_sem, seval]
 apply Y; clear Y K
 refine Ze ?_ ?_ <;> intro hb
 ·have h4 : 9223372036854775807 < (ruB b p).1 := by have := of_decide_eq_true hb; omega
  refine VM zs 2 rfl trivial ?_
  simp only [go_sem, seval]
  exact RdK.none (by unfold YC; rw [if_neg (by simp [h3]), if_pos h4]; rfl) (Nat.le_refl _) fun k _ hk => by simp [Heap.put, hk]
 have h4 : ¬ 9223372036854775807 < (ruB b p).1 := by have := of_decide_eq_false hb; omega
 have e3 : IntKind.i64.wrap ((ruB b p).1 : Int) = ((ruB b p).1 : Int) := w64 (by omega) (by omega)
 refine Zd ?_
 simp only [go_sem, seval]
 apply hK1
 clear hK1 K1
 refine Za zs [2] fun K Y => ?_
 simp only [go_sem, seval, e3]
 apply Y; clear Y K
 refine Zf ?_
 simp only [go_sem, seval]
 exact RdK.some (by unfold YC; rw [if_neg (by simp [h3]), if_neg h4]; rfl) rfl rfl
theorem V7 (b : List UInt8) (H : Heap) (n : Nat) : Ret prog 64 [bys b] H n (bys b) H n := by
 refine Zc func64 rfl ntmps64 (congrArg Array.toList results64) (by simp) ?_
 simp only [go_sem]
 refine Za zs [0] fun K Y => ?_
 simp only [go_sem, seval]
 apply Y; clear Y K
 refine Za zs [2] fun K Y => ?_
 simp only [go_sem, seval, List.length_map, Option.getD_some, Option.getD_none, Int.toNat_natCast, List.drop_zero]
 repeat refine peel ?_
 apply Y; clear Y K
 refine Zf ?_
 simp only [go_sem, seval]
 simp [List.take_of_length_le]
theorem ZN {b : List UInt8} {p kr : Nat} (hb9 : b.length ≤ 1099511627776) (hp : p ≤ b.length) {H : Heap} {n : Nat} (hR : H kr = some (rdO b p)) : Zx prog 71 [.loc kr 0 0 0 []] H n (RdK torn kr b H n (rav bys (YH b p))) := by
 have hR1 := hR
 unfold rdO at hR1
 refine Zc func71 rfl ntmps71 (congrArg Array.toList results71) (by simp) ?_
 simp only [go_sem]
 refine Za zs [0] fun K Y => ?_
 simp only [go_sem, seval]
 apply Y; clear Y K
 refine YJ rfl zs [0, 3, 4, 5] [.m, .q, .q, .q, .m, .q, .q, .q, .m, .q, .q, .q, .q, .c, .m, .q, .q, .q, .q, .q, .q] (by kernel_rfl) (fun _ _ _ _ _ h => h) fun K Y => ?_
 simp only [go_sem, seval, hR1, List.length_map]
 refine ZR func130 rfl rfl rfl (fun _ n => (Ui b p b.length hb9 (by omega) hb9 _ _)) ?_
 simp only [go_sem, seval, rbAV]
 apply Y; clear Y K
 refine Za zs [0, 3, 4] fun K Y => ?_
 simp only [go_sem, seval]
 refine Zi (args' := [.loc kr 0 0 0 [], .int .i64 (rbB b p b.length).2.2]) func129 rfl rfl rfl (Vj kr _ _ _) ?_ ?_
 rotate_left
 ·rintro q H' n' ⟨rfl, rfl, h1, h2⟩
  have h3 : (rbB b p b.length).2.2 ≠ 0 := fun h => by have := h1 h; cases this
  have h4 := h2 h3
  cases h4
  exact RdK.none (by unfold YH; rw [if_pos h3]; rfl) (Nat.le_refl _) fun _ _ _ => rfl
 rintro rr H' n' ⟨rfl, rfl, h1, h2⟩
 have h3 : (rbB b p b.length).2.2 = 0 := Classical.byContradiction fun h => by have := h2 h; cases this
 cases h1 h3
 apply Y; clear Y K
 refine Za zs [3] fun K Y => ?_
 simp only [go_sem, seval, hR1]
 apply Y; clear Y K
 refine Za zs [2] fun K Y => ?_
 simp only [go_sem, seval]
 refine Zg func64 rfl rfl rfl ((V7 (rbB b p b.length).1 _ _)) ?_
 simp only [go_sem, seval]
 apply Y; clear Y K
 refine Zf ?_
 simp only [go_sem, seval]
 exact RdK.some (by unfold YH; rw [if_neg (by simp [h3])]; rfl) rfl rfl
theorem YN {b : List UInt8} {p kr : Nat} (hb9 : b.length ≤ 1099511627776) (hp : p ≤ b.length) {H : Heap} {n : Nat} (hR : H kr = some (rdO b p)) : Zx prog 93 [.loc kr 0 0 0 []] H n (RdK torn kr b H n (rav (fun x : Nat => .int .i64 x) (Vn b p))) := by
 refine Zc func93 rfl ntmps93 (congrArg Array.toList results93) (by simp) ?_
 simp only [go_sem]
 refine ZE zs [0] ?_
 refine Za zs [0, 3] fun K Y => ?_
 simp only [go_sem, seval]
 refine Zi (args' := [.loc kr 0 0 0 []]) func69 rfl rfl rfl (ZT hb9 hp hR) ?_ ?_
 rotate_left
 ·intro q H' n' h
  obtain ⟨h1, rfl, h2, h3⟩ := h.die
  exact RdK.none (by unfold Vn; rw [h1]; rfl) h2 h3
 rintro rr H' n' h
 obtain ⟨x, q, h1, rfl, rfl, rfl⟩ := h.get
 obtain ⟨hq1, hq2, hq3, hq4⟩ := YP h1
 have e1 : IntKind.i64.wrap ((b.length : Int) - (q : Int)) = ((b.length - q : Nat) : Int) := by rw [w64 (by omega) (by omega)]; omega
 simp only [go_sem, seval]
 apply Y; clear Y K
 refine Zb fun K1 hK1 => ?_
 refine YJ rfl zs [3, 17] [.m, .m, .q, .q, .q, .q, .m, .q, .q, .q, .q, .q] (by kernel_rfl) (fun _ _ _ _ _ h => h) fun K Y => ?_
 simp only [go_sem, seval, e1, rdO, List.length_map]
 apply Y; clear Y K
 refine Ze ?_ ?_ <;> intro hb
 ·have h2 : b.length < q + x.toNat := by have := of_decide_eq_true hb; omega
  refine VM zs 2 rfl trivial ?_
  simp only [go_sem, seval]
  exact RdK.none (by unfold Vn; rw [h1]; show rav _ (if b.length < q + x.toNat then none else _) = _; rw [if_pos h2]; rfl) (Nat.le_refl _) fun k _ hk => by simp [Heap.put, hk]
 have h2 : ¬ b.length < q + x.toNat := by have := of_decide_eq_false hb; omega
 refine Zd ?_
 simp only [go_sem, seval]
 apply hK1
 clear hK1 K1
 refine ZE zs [2] ?_
 refine Zf ?_
 simp only [go_sem, seval]
 exact RdK.some (v := .int .i64 x) (p := q) (by unfold Vn; rw [h1]; show rav _ (if b.length < q + x.toNat then none else _) = _; rw [if_neg h2]; show some (AV.int .i64 ((x.toNat : Nat) : Int), q) = _; rw [Int.toNat_of_nonneg hq3]) rfl rfl
theorem Qe {b : List UInt8} {p kr : Nat} (hb9 : b.length ≤ 1099511627776) (hp : p ≤ b.length) {H : Heap} {n : Nat} (hR : H kr = some (rdO b p)) : Zx prog 131 [.loc kr 0 0 0 []] H n (RdK torn kr b H n (rav (.int .i64 ·) (Vm b p))) := by
 have hR1 := hR
 unfold rdO at hR1
 have e1 : IntKind.i64.wrap ((p : Int) + 8) = ((p + 8 : Nat) : Int) := by rw [w64 (by omega) (by omega)]; omega
 have e2 : IntKind.i64.wrap (((p + 8 : Nat) : Int) - 8) = (p : Int) := by rw [w64 (by omega) (by omega)]; omega
 refine Zc func131 rfl ntmps131 (congrArg Array.toList results131) (by simp) ?_
 simp only [go_sem]
 refine Za zs [0] fun K Y => ?_
 simp only [go_sem, seval]
 apply Y; clear Y K
 refine Zb fun K1 hK1 => ?_
 refine YJ rfl zs [0, 16] [.m, .q, .q, .q, .q, .m, .q, .q, .q, .q, .q] (by kernel_rfl) (fun _ _ _ _ _ h => h) fun K Y => ?_
 simp only [go_sem, seval, hR1, e1, List.length_map]
 apply Y; clear Y K
 refine Ze ?_ ?_ <;> intro hb
 ·have h1 : b.length < p + 8 := by have := of_decide_eq_true hb; omega
  refine VM zs 2 rfl trivial ?_
  simp only [go_sem, seval]
  exact RdK.none (by unfold Vm; rw [if_pos h1]; rfl) (Nat.le_refl _) fun _ _ _ => rfl
 have h1 : ¬ b.length < p + 8 := by have := of_decide_eq_false hb; omega
 have e5 : List.drop p (List.take (p + 8) (b.map Zn)) = ((b.drop p).take 8).map Zn := by rw [List.take_add, List.drop_append_of_le_length (by simp; omega), List.drop_take_self, List.nil_append, ← List.map_drop, ← List.map_take]
 have e6 : ((b.drop p).take 8).length = 8 := by simp; omega
 refine Zd ?_
 simp only [go_sem, seval]
 apply hK1
 clear hK1 K1
 refine Za zs [0] fun K Y => ?_
 simp only [go_sem, seval, hR1, e1]
 apply Y; clear Y K
 refine Za zs [0, 3] fun K Y => ?_
 simp only [go_sem, seval]
 apply Y; clear Y K
 refine Zb fun K2 hK2 => ?_
 refine YJ rfl zs [3, 39, 40, 41] [.m, .q, .q, .q, .m, .q, .q, .q, .q, .m, .q, .q, .q, .q, .q, .m] (by kernel_rfl) (fun _ _ _ _ _ h => h) fun K Y => ?_
 simp only [go_sem, seval, e2, List.length_map, e5, e6, Option.getD_some, Int.toNat_natCast]
 repeat (first | refine peel ?_ | refine ⟨by exact ⟨by omega, by omega, by omega, fun m h => h.elim⟩, ?_⟩)
 apply Y; clear Y K
 refine Zj ?_
 refine Zz (fun T' H' n' => ∃ i : Nat, i ≤ 8 ∧ T' = tl [(3, .int .u64 (be8 (((b.drop p).take 8).take i))), (39, .sl 1 (((b.drop p).take 8).map Zn)), (40, .int .i64 8), (41, .int .i64 i)] ∧ H' = H.put kr (some (rdO b (p + 8))) ∧ n' = n) (fun T' _ _ => 8 - iv (T' 41)) ?_ ?_
 ·exact ⟨0, by omega, rfl, rfl, rfl⟩
 intro T1 H1 n1
 rintro ⟨i, hi, rfl, rfl, rfl⟩
 refine Za zs [3, 39, 40, 41, 42] fun K Y => ?_
 simp only [go_sem, seval]
 apply Y; clear Y K
 refine Zb fun K3 hK3 => ?_
 refine Ze ?_ ?_ <;> intro hb
 ·have hlt : i < 8 := by have := of_decide_eq_true hb; omega
  have hnth : nth (((b.drop p).take 8).map Zn) i = Zn (((b.drop p).take 8).getD i default) := ZF Zn _ _ (by omega)
  have hts := Qr ((b.drop p).take 8) (show i < ((b.drop p).take 8).length by omega)
  generalize ((b.drop p).take 8).getD i default = c at *
  have hcl := c.toNat_lt
  have hvl := be8_lt (((b.drop p).take 8).take i)
  have hvl2 : 256 ^ (((b.drop p).take 8).take i).length ≤ 256 ^ 7 := Nat.pow_le_pow_right (by omega) (by rw [List.length_take]; omega)
  have e7 : IntKind.u64.wrap ((be8 (((b.drop p).take 8).take i) : Int) * 2 ^ (min 8 64)) = ((be8 (((b.drop p).take 8).take i) * 2 ^ 8 : Nat) : Int) := by rw [IntKind.wrap_u64, show (2 : Int) ^ (min 8 64) = 256 by decide]; omega
  have e8 : IntKind.u64.wrap ((c.toNat : Nat) : Int) = (c.toNat : Int) := by rw [IntKind.wrap_u64]; omega
  have e9 := or64' (x := c.toNat) (m := be8 (((b.drop p).take 8).take i)) (k := 8) (by omega) (by omega)
  refine Zd ?_
  simp only [go_sem, seval]
  apply hK3
  clear hK3 K3
  refine Zb fun K4 hK4 => ?_
  refine Zj ?_
  refine Za zs [3, 5, 39, 40, 41] fun K Y => ?_
  simp only [go_sem, seval, List.length_map, hnth, Int.toNat_natCast, Zn]
  repeat refine peel ?_
  apply Y; clear Y K
  refine Zl zs [3, 39, 40, 41] fun K Y => ?_
  simp only [go_sem, seval, e7, e8, e9]
  apply Y; clear Y K
  simp only [go_sem, seval]
  apply hK4
  clear hK4 K4
  refine Zl zs [3, 39, 40, 41] fun K Y => ?_
  simp only [go_sem, seval]
  apply Y; clear Y K
  simp only [go_sem, seval]
  exact ⟨⟨i + 1, by omega, by rw [hts, be8_snoc, w1 (by omega)]⟩, by rw [w1 (by omega)]; simp; omega⟩
 have hi8 : i = 8 := by have := of_decide_eq_false hb; omega
 subst hi8
 have htk : ((b.drop p).take 8).take 8 = (b.drop p).take 8 := List.take_of_length_le (by omega)
 refine ZA ?_
 simp only [go_sem, seval]
 apply hK2
 refine Za zs [2] fun K Y => ?_
 simp only [go_sem, seval, htk]
 apply Y; clear Y K
 refine Zf ?_
 simp only [go_sem, seval]
 exact RdK.some (by unfold Vm; rw [if_neg h1]; rfl) rfl rfl
set_option maxHeartbeats 1600000 in
theorem c_order_conds {b : List UInt8} {p kr : Nat} (hb9 : b.length ≤ 1048576) (hp : p ≤ b.length) {H : Heap} {n : Nat} (hk : kr < n) (hR : H kr = some (rdO b p)) : Zx prog 72 [.loc kr 0 0 0 []] H n (RdK torn kr b H n (rav (fun l : List YF => .sl 4 (l.map Zu)) (Ym YS b p))) := by
 have hb9' := hb9
 replace hb9 : b.length ≤ 1099511627776 := by omega
 have k1 := hR
 have k2 := hR
 refine RdK.fin hk ?_
 refine Zc func72 rfl ntmps72 (congrArg Array.toList results72) (by simp) ?_
 simp only [go_sem]
 refine Za zs [0] fun K Y => ?_
 simp only [go_sem, seval]
 apply Y; clear Y K
 refine Za zs [0, 3] fun K Y => ?_
 simp only [go_sem, seval]
 apply Y; clear Y K
 refine Zb fun K1 hK1 => ?_
 refine Za zs [0, 3, 5, 6] fun K Y => ?_
 simp only [go_sem, seval]
 refine Zi (args' := [.loc kr 0 0 0 []]) func93 rfl rfl rfl (YN hb9 hp hR) ?_ ?_
 rotate_left
 ·intro e9 H9 n9 h9
  obtain ⟨h1, rfl, h2, h3⟩ := h9.die
  exact .inr ⟨by unfold Ym; rw [h1]; rfl, rfl, h2, h3⟩
 rintro rr H9 n9 h9
 obtain ⟨cnt, q0, g0, rfl, rfl, rfl⟩ := h9.get
 have hq0 := WG g0
 apply Y; clear Y K
 refine Zj ?_
 refine Yb 3 4 rfl ?_
 refine YR [0, 3, 5, 6] ?_
 simp only [go_sem, seval]
 refine Zz (fun T' H' n' => ∃ (i q ver : Nat) (acc : List YF), i ≤ cnt ∧ acc.length = i ∧ q ≤ b.length ∧ T' = tl [(0, .loc kr 0 0 0 []), (3, .osl n ver 0 acc.length), (5, .int .i64 cnt), (6, .int .i64 i)] ∧ H' kr = some (rdO b q) ∧ H' n = some (.arr ver 4 (acc.map Zu)) ∧ (∀ k, k < n → k ≠ kr → H' k = H k) ∧ n' = n + 1 ∧ Xh YS b (cnt - i) q acc = Ym YS b p) (fun T' _ _ => cnt - iv (T' 6)) ?_ ?_
 ·refine ⟨0, q0, 0, [], Nat.zero_le _, rfl, by omega, rfl, by simp [Heap.put]; omega, by simp [Heap.put], fun k hk2 hkr => by simp [Heap.put, hkr]; omega, rfl, ?_⟩
  unfold Ym; rw [g0]; rfl
 intro T1 H1 n1
 rintro ⟨i, q, ver, acc, hi, hal, hq, rfl, k1, k2, k3, rfl, hix⟩
 skip
 refine Za zs [0, 3, 5, 6, 7] fun K Y => ?_
 simp only [go_sem, seval]
 apply Y; clear Y K
 refine Zb fun K2 hK2 => ?_
 refine Ze ?_ ?_ <;> intro hb
 ·have hlt : i < cnt := by have := of_decide_eq_true hb; omega
  have hkn : (n = kr) = False := by simp; omega
  have hkn' : (kr = n) = False := by simp; omega
  refine Zd ?_
  simp only [go_sem, seval]
  apply hK2
  clear hK2 K2
  refine Zb fun K3 hK3 => ?_
  refine Zj ?_
  refine Zl zs [0, 3, 5, 6] fun K Y => ?_
  simp only [go_sem, seval]
  refine Zi (args' := [.loc kr 0 0 0 []]) func67 rfl rfl rfl (Yf hb9 hq k1) ?_ ?_
  rotate_left
  ·intro e9 H9 n9 h9
   obtain ⟨h1, rfl, h2, h3⟩ := h9.die
   have hno : YS b q = none := by unfold YS; simp [h1]
   rw [ZY YS b hlt, hno] at hix
   refine .inr ⟨by rw [← hix]; rfl, rfl, by omega, fun k hk hkr => (h3 k (by omega) hkr).trans ?_⟩
   exact k3 k hk hkr
  rintro rr H9 n9 h9
  obtain ⟨x1, q1, g1, rfl, rfl, rfl⟩ := h9.get
  have hq1 := XR g1
  simp only [go_sem, seval, AV.memOK.eq_5]
  refine Zi (args' := [.loc kr 0 0 0 []]) func67 rfl rfl rfl (Yf hb9 (hq1.1) (MG _ _ _)) ?_ ?_
  rotate_left
  ·intro e9 H9 n9 h9
   obtain ⟨h1, rfl, h2, h3⟩ := h9.die
   have hno : YS b q = none := by unfold YS; simp [g1, h1]
   rw [ZY YS b hlt, hno] at hix
   refine .inr ⟨by rw [← hix]; rfl, rfl, by omega, fun k hk hkr => (h3 k (by omega) hkr).trans ?_⟩
   (simp only [MF]; (repeat rw [if_neg (by omega)]); exact k3 k hk hkr)
  rintro rr H9 n9 h9
  obtain ⟨x2, q2, g2, rfl, rfl, rfl⟩ := h9.get
  have hq2 := XR g2
  simp only [go_sem, seval, AV.memOK.eq_5]
  refine Zi (args' := [.loc kr 0 0 0 []]) func71 rfl rfl rfl (ZN hb9 (hq2.1) (MG _ _ _)) ?_ ?_
  rotate_left
  ·intro e9 H9 n9 h9
   obtain ⟨h1, rfl, h2, h3⟩ := h9.die
   have hno : YS b q = none := by unfold YS; simp [g1, g2, h1]
   rw [ZY YS b hlt, hno] at hix
   refine .inr ⟨by rw [← hix]; rfl, rfl, by omega, fun k hk hkr => (h3 k (by omega) hkr).trans ?_⟩
   (simp only [MF]; (repeat rw [if_neg (by omega)]); exact k3 k hk hkr)
  rintro rr H9 n9 h9
  obtain ⟨x3, q3, g3, rfl, rfl, rfl⟩ := h9.get
  have hq3 := ZV g3
  simp only [go_sem, seval, AV.memOK.eq_5, bys]
  refine Zi (args' := [.loc kr 0 0 0 []]) func71 rfl rfl rfl (ZN hb9 (hq3.1) (MG _ _ _)) ?_ ?_
  rotate_left
  ·intro e9 H9 n9 h9
   obtain ⟨h1, rfl, h2, h3⟩ := h9.die
   have hno : YS b q = none := by unfold YS; simp [g1, g2, g3, h1]
   rw [ZY YS b hlt, hno] at hix
   refine .inr ⟨by rw [← hix]; rfl, rfl, by omega, fun k hk hkr => (h3 k (by omega) hkr).trans ?_⟩
   (simp only [MF]; (repeat rw [if_neg (by omega)]); exact k3 k hk hkr)
  rintro rr H9 n9 h9
  obtain ⟨x4, q4, g4, rfl, rfl, rfl⟩ := h9.get
  have hq4 := ZV g4
  simp only [go_sem, seval, k2, List.length_map, AV.memOK.eq_5, bys, hkn]
  repeat (first | refine peel ?_ | (refine And.intro ?_ ?_; · first | exact ⟨rfl, by simp [AV.sz, AV.szs, AV.memOK]⟩ | exact ⟨by omega, .inr trivial, by omega, by omega⟩))
  apply Y; clear Y K
  simp only [go_sem, seval]
  apply hK3
  clear hK3 K3
  refine Zl zs [0, 3, 5, 6] fun K Y => ?_
  simp only [go_sem, seval]
  apply Y; clear Y K
  simp only [go_sem, seval]
  refine ⟨⟨i + 1, q4, ver + 1, acc ++ [⟨x1, x2, x3, x4⟩], by omega, by simp [hal], hq4.1, by rw [w1 (by omega)]; simp, by simp [hkn'], ?_, fun k hk2 hkr => ?_, ?_⟩, by rw [w1 (by omega)]; simp; omega⟩
  ·simp [Heap.put, Zu, bys, List.take_of_length_le]
  ·have h0 : k ≠ n := by omega
   simp [Heap.put, h0, hkr, k3 k hk2 hkr]
  ·rw [← hix, ZY YS b hlt]; unfold YS; simp [g1, g2, g3, g4]
 have hge : i = cnt := by have := of_decide_eq_false hb; omega
 subst hge
 rw [Nat.sub_self] at hix
 refine ZA ?_
 simp only [go_sem, seval]
 apply hK1
 refine Za zs [2] fun K Y => ?_
 simp only [go_sem, seval]
 apply Y; clear Y K
 refine Zf ?_
 simp only [go_sem, seval, k1]
 refine .inl ⟨_, .sl 4 (acc.map Zu), q, rfl, by rw [← hix]; rfl, (by first | exact k1 | rfl), k3, .osl k2 (Nat.le_refl _) (by simp) ?_⟩
 rw [List.drop_zero, List.take_of_length_le (by simp)]
 exact YA _ (Xl Zu (fun x => kl_condAV x n) acc)
set_option maxHeartbeats 1600000 in
theorem c_order_ops {b : List UInt8} {p kr : Nat} (hb9 : b.length ≤ 1048576) (hp : p ≤ b.length) {H : Heap} {n : Nat} (hk : kr < n) (hR : H kr = some (rdO b p)) : Zx prog 73 [.loc kr 0 0 0 []] H n (RdK torn kr b H n (rav (fun l : List OpE => .sl 6 (l.map opAV)) (Ym rdOp b p))) := by
 have hb9' := hb9
 replace hb9 : b.length ≤ 1099511627776 := by omega
 have k1 := hR
 have k2 := hR
 refine RdK.fin hk ?_
 refine Zc func73 rfl ntmps73 (congrArg Array.toList results73) (by simp) ?_
 simp only [go_sem]
 refine Za zs [0] fun K Y => ?_
 simp only [go_sem, seval]
 apply Y; clear Y K
 refine Za zs [0, 3] fun K Y => ?_
 simp only [go_sem, seval]
 apply Y; clear Y K
 refine Zb fun K1 hK1 => ?_
 refine Za zs [0, 3, 5, 6] fun K Y => ?_
 simp only [go_sem, seval]
 refine Zi (args' := [.loc kr 0 0 0 []]) func93 rfl rfl rfl (YN hb9 hp hR) ?_ ?_
 rotate_left
 ·intro e9 H9 n9 h9
  obtain ⟨h1, rfl, h2, h3⟩ := h9.die
  exact .inr ⟨by unfold Ym; rw [h1]; rfl, rfl, h2, h3⟩
 rintro rr H9 n9 h9
 obtain ⟨cnt, q0, g0, rfl, rfl, rfl⟩ := h9.get
 have hq0 := WG g0
 apply Y; clear Y K
 refine Zj ?_
 refine Yb 3 6 rfl ?_
 refine YR [0, 3, 5, 6] ?_
 simp only [go_sem, seval]
 refine Zz (fun T' H' n' => ∃ (i q ver : Nat) (acc : List OpE), i ≤ cnt ∧ acc.length = i ∧ q ≤ b.length ∧ T' = tl [(0, .loc kr 0 0 0 []), (3, .osl n ver 0 acc.length), (5, .int .i64 cnt), (6, .int .i64 i)] ∧ H' kr = some (rdO b q) ∧ H' n = some (.arr ver 6 (acc.map opAV)) ∧ (∀ k, k < n → k ≠ kr → H' k = H k) ∧ n' = n + 1 ∧ Xh rdOp b (cnt - i) q acc = Ym rdOp b p) (fun T' _ _ => cnt - iv (T' 6)) ?_ ?_
 ·refine ⟨0, q0, 0, [], Nat.zero_le _, rfl, by omega, rfl, by simp [Heap.put]; omega, by simp [Heap.put], fun k hk2 hkr => by simp [Heap.put, hkr]; omega, rfl, ?_⟩
  unfold Ym; rw [g0]; rfl
 intro T1 H1 n1
 rintro ⟨i, q, ver, acc, hi, hal, hq, rfl, k1, k2, k3, rfl, hix⟩
 skip
 refine Za zs [0, 3, 5, 6, 7] fun K Y => ?_
 simp only [go_sem, seval]
 apply Y; clear Y K
 refine Zb fun K2 hK2 => ?_
 refine Ze ?_ ?_ <;> intro hb
 ·have hlt : i < cnt := by have := of_decide_eq_true hb; omega
  have hkn : (n = kr) = False := by simp; omega
  have hkn' : (kr = n) = False := by simp; omega
  refine Zd ?_
  simp only [go_sem, seval]
  apply hK2
  clear hK2 K2
  refine Zb fun K3 hK3 => ?_
  refine Zj ?_
  refine Zl zs [0, 3, 5, 6] fun K Y => ?_
  simp only [go_sem, seval]
  refine Zi (args' := [.loc kr 0 0 0 []]) func67 rfl rfl rfl (Yf hb9 hq k1) ?_ ?_
  rotate_left
  ·intro e9 H9 n9 h9
   obtain ⟨h1, rfl, h2, h3⟩ := h9.die
   have hno : rdOp b q = none := by unfold rdOp; simp [h1]
   rw [ZY rdOp b hlt, hno] at hix
   refine .inr ⟨by rw [← hix]; rfl, rfl, by omega, fun k hk hkr => (h3 k (by omega) hkr).trans ?_⟩
   exact k3 k hk hkr
  rintro rr H9 n9 h9
  obtain ⟨x1, q1, g1, rfl, rfl, rfl⟩ := h9.get
  have hq1 := XR g1
  simp only [go_sem, seval, AV.memOK.eq_5]
  refine Zi (args' := [.loc kr 0 0 0 []]) func67 rfl rfl rfl (Yf hb9 (hq1.1) (MG _ _ _)) ?_ ?_
  rotate_left
  ·intro e9 H9 n9 h9
   obtain ⟨h1, rfl, h2, h3⟩ := h9.die
   have hno : rdOp b q = none := by unfold rdOp; simp [g1, h1]
   rw [ZY rdOp b hlt, hno] at hix
   refine .inr ⟨by rw [← hix]; rfl, rfl, by omega, fun k hk hkr => (h3 k (by omega) hkr).trans ?_⟩
   (simp only [MF]; (repeat rw [if_neg (by omega)]); exact k3 k hk hkr)
  rintro rr H9 n9 h9
  obtain ⟨x2, q2, g2, rfl, rfl, rfl⟩ := h9.get
  have hq2 := XR g2
  simp only [go_sem, seval, AV.memOK.eq_5]
  refine Zi (args' := [.loc kr 0 0 0 []]) func71 rfl rfl rfl (ZN hb9 (hq2.1) (MG _ _ _)) ?_ ?_
  rotate_left
  ·intro e9 H9 n9 h9
   obtain ⟨h1, rfl, h2, h3⟩ := h9.die
   have hno : rdOp b q = none := by unfold rdOp; simp [g1, g2, h1]
   rw [ZY rdOp b hlt, hno] at hix
   refine .inr ⟨by rw [← hix]; rfl, rfl, by omega, fun k hk hkr => (h3 k (by omega) hkr).trans ?_⟩
   (simp only [MF]; (repeat rw [if_neg (by omega)]); exact k3 k hk hkr)
  rintro rr H9 n9 h9
  obtain ⟨x3, q3, g3, rfl, rfl, rfl⟩ := h9.get
  have hq3 := ZV g3
  simp only [go_sem, seval, AV.memOK.eq_5, bys]
  refine Zi (args' := [.loc kr 0 0 0 []]) func69 rfl rfl rfl (ZT hb9 (hq3.1) (MG _ _ _)) ?_ ?_
  rotate_left
  ·intro e9 H9 n9 h9
   obtain ⟨h1, rfl, h2, h3⟩ := h9.die
   have hno : rdOp b q = none := by unfold rdOp; simp [g1, g2, g3, h1]
   rw [ZY rdOp b hlt, hno] at hix
   refine .inr ⟨by rw [← hix]; rfl, rfl, by omega, fun k hk hkr => (h3 k (by omega) hkr).trans ?_⟩
   (simp only [MF]; (repeat rw [if_neg (by omega)]); exact k3 k hk hkr)
  rintro rr H9 n9 h9
  obtain ⟨x4, q4, g4, rfl, rfl, rfl⟩ := h9.get
  have hq4 := YP g4
  simp only [go_sem, seval, AV.memOK.eq_5]
  refine Zi (args' := [.loc kr 0 0 0 []]) func71 rfl rfl rfl (ZN hb9 (hq4.1) (MG _ _ _)) ?_ ?_
  rotate_left
  ·intro e9 H9 n9 h9
   obtain ⟨h1, rfl, h2, h3⟩ := h9.die
   have hno : rdOp b q = none := by unfold rdOp; simp [g1, g2, g3, g4, h1]
   rw [ZY rdOp b hlt, hno] at hix
   refine .inr ⟨by rw [← hix]; rfl, rfl, by omega, fun k hk hkr => (h3 k (by omega) hkr).trans ?_⟩
   (simp only [MF]; (repeat rw [if_neg (by omega)]); exact k3 k hk hkr)
  rintro rr H9 n9 h9
  obtain ⟨x5, q5, g5, rfl, rfl, rfl⟩ := h9.get
  have hq5 := ZV g5
  simp only [go_sem, seval, AV.memOK.eq_5, bys]
  refine Zi (args' := [.loc kr 0 0 0 []]) func131 rfl rfl rfl (Qe hb9 (hq5.1) (MG _ _ _)) ?_ ?_
  rotate_left
  ·intro e9 H9 n9 h9
   obtain ⟨h1, rfl, h2, h3⟩ := h9.die
   have hno : rdOp b q = none := by unfold rdOp; simp [g1, g2, g3, g4, g5, h1]
   rw [ZY rdOp b hlt, hno] at hix
   refine .inr ⟨by rw [← hix]; rfl, rfl, by omega, fun k hk hkr => (h3 k (by omega) hkr).trans ?_⟩
   (simp only [MF]; (repeat rw [if_neg (by omega)]); exact k3 k hk hkr)
  rintro rr H9 n9 h9
  obtain ⟨x6, q6, g6, rfl, rfl, rfl⟩ := h9.get
  have hq6 := Lx g6
  simp only [go_sem, seval, k2, List.length_map, AV.memOK.eq_5, hkn]
  repeat (first | refine peel ?_ | (refine And.intro ?_ ?_; · first | exact ⟨rfl, by simp [AV.sz, AV.szs, AV.memOK]⟩ | exact ⟨by omega, .inr trivial, by omega, by omega⟩))
  apply Y; clear Y K
  simp only [go_sem, seval]
  apply hK3
  clear hK3 K3
  refine Zl zs [0, 3, 5, 6] fun K Y => ?_
  simp only [go_sem, seval]
  apply Y; clear Y K
  simp only [go_sem, seval]
  refine ⟨⟨i + 1, q6, ver + 1, acc ++ [⟨x1, x2, x3, x4, x5, x6⟩], by omega, by simp [hal], hq6.1, by rw [w1 (by omega)]; simp, by simp [hkn'], ?_, fun k hk2 hkr => ?_, ?_⟩, by rw [w1 (by omega)]; simp; omega⟩
  ·simp [Heap.put, opAV, bys, List.take_of_length_le]
  ·have h0 : k ≠ n := by omega
   simp [Heap.put, h0, hkr, k3 k hk2 hkr]
  ·rw [← hix, ZY rdOp b hlt]; unfold rdOp; simp [g1, g2, g3, g4, g5, g6]
 have hge : i = cnt := by have := of_decide_eq_false hb; omega
 subst hge
 rw [Nat.sub_self] at hix
 refine ZA ?_
 simp only [go_sem, seval]
 apply hK1
 refine Za zs [2] fun K Y => ?_
 simp only [go_sem, seval]
 apply Y; clear Y K
 refine Zf ?_
 simp only [go_sem, seval, k1]
 refine .inl ⟨_, .sl 6 (acc.map opAV), q, rfl, by rw [← hix]; rfl, (by first | exact k1 | rfl), k3, .osl k2 (Nat.le_refl _) (by simp) ?_⟩
 rw [List.drop_zero, List.take_of_length_le (by simp)]
 exact YA _ (Xl opAV (fun x => kl_opAV x n) acc)
set_option maxRecDepth 100000 in
set_option maxHeartbeats 3200000 in
theorem Ke {b : List UInt8} {p kr : Nat} (hb9 : b.length ≤ 1048576) (hp : p ≤ b.length) {H : Heap} {n : Nat} (hk : kr < n) (hR : H kr = some (rdO b p)) : Zx prog 76 [.loc kr 0 0 0 []] H n (RdK torn kr b H n (rav Zq (Wu b p))) := by
 have hb9' := hb9
 replace hb9 : b.length ≤ 1099511627776 := by omega
 have hkn : (n = kr) = False := by simp; omega
 have hkn' : (kr = n) = False := by simp; omega
 have hkn1 : (n + 1 = kr) = False := by simp; omega
 have hkn1' : (kr = n + 1) = False := by simp; omega
 have hkn2 : (n + 2 = kr) = False := by simp; omega
 have hkn2' : (kr = n + 2) = False := by simp; omega
 have k1 := hR
 have k2 := hR
 have k4 := hR
 have k5 := hR
 refine RdK.fin hk ?_
 refine Zc func76 rfl ntmps76 (congrArg Array.toList results76) (by simp) ?_
 simp only [go_sem]
 refine Za zs [0, 2] fun K Y => ?_
 simp only [go_sem, seval]
 apply Y; clear Y K
 refine Za zs [0, 2, 3] fun K Y => ?_
 simp only [go_sem, seval, AV.memOK.eq_5]
 refine Zi (args' := [.loc kr 0 0 0 []]) func71 rfl rfl rfl (ZN hb9 hp (by simp [Heap.put, hkn']; exact hR)) ?_ ?_
 rotate_left
 ·intro e9 H9 n9 h9
  obtain ⟨h1, rfl, h2, h3⟩ := h9.die
  refine .inr ⟨by unfold Wu; simp [h1, rav], rfl, by omega, fun k hk hkr => (h3 k (by omega) hkr).trans ?_⟩
  (simp only [MF]; (repeat rw [if_neg (by omega)]); done)
 rintro rr H9 n9 h9
 obtain ⟨f, q1, g1, rfl, rfl, rfl⟩ := h9.get
 have hq1 := ZV g1
 simp only [go_sem, seval, AV.memOK.eq_5, bys]
 refine Zi (args' := [.loc kr 0 0 0 []]) func71 rfl rfl rfl (ZN hb9 hq1.1 (MG _ _ _)) ?_ ?_
 rotate_left
 ·intro e9 H9 n9 h9
  obtain ⟨h1, rfl, h2, h3⟩ := h9.die
  refine .inr ⟨by unfold Wu; simp [g1, h1, rav], rfl, by omega, fun k hk hkr => (h3 k (by omega) hkr).trans ?_⟩
  (simp only [MF]; (repeat rw [if_neg (by omega)]); done)
 rintro rr H9 n9 h9
 obtain ⟨t, q2, g2, rfl, rfl, rfl⟩ := h9.get
 have hq2 := ZV g2
 simp only [go_sem, seval, AV.memOK.eq_5, bys, Nat.add_assoc]
 repeat refine peel ?_
 apply Y; clear Y K
 refine Zb fun K1 hK1 => ?_
 refine Za zs [0, 2, 3, 10, 11] fun K Y => ?_
 simp only [go_sem, seval]
 refine Zi (args' := [.loc kr 0 0 0 []]) func93 rfl rfl rfl (YN hb9 hq2.1 (by simp [Heap.put, hkn, hkn', hkn1, hkn1', hkn2, hkn2'])) ?_ ?_
 rotate_left
 ·intro e9 H9 n9 h9
  obtain ⟨h1, rfl, h2, h3⟩ := h9.die
  refine .inr ⟨by unfold Wu; simp [g1, g2, Ym, h1, rav], rfl, by omega, fun k hk hkr => (h3 k (by omega) hkr).trans ?_⟩
  (simp only [MF]; (repeat rw [if_neg (by omega)]); done)
 rintro rr H9 n9 h9
 obtain ⟨cnt, q3, g3, rfl, rfl, rfl⟩ := h9.get
 have hq3 := WG g3
 apply Y; clear Y K
 refine Zj ?_
 refine Xk (n + 1) 1 (ver := 0) (e := 10) (els := [.agg [bys f, bys t, .nilsl, .nilsl, .int .i64 0, .int .i64 0, .int .i64 0, .bool false, .str [], .nilsl]]) (els' := [.agg [bys f, bys t, .osl (n + 2) 0 0 0, .nilsl, .int .i64 0, .int .i64 0, .int .i64 0, .bool false, .str [], .nilsl]]) (by simp [Heap.put, hkn1, bys]) ⟨.agg ⟨.refl _ _, .refl _ _, .nilsl _, .refl _ _, .refl _ _, .refl _ _, .refl _ _, .refl _ _, .refl _ _, .refl _ _, trivial⟩, trivial⟩ ?_
 refine Zz (fun T' H' n' => ∃ (i q ver : Nat) (acc : List Int), i ≤ cnt ∧ acc.length = i ∧ q ≤ b.length ∧ T' = tl [(0, .loc kr 0 0 0 []), (2, .loc n 0 0 0 []), (3, .loc (n + 1) 0 0 0 []), (10, .int .i64 cnt), (11, .int .i64 i)] ∧ H' kr = some (rdO b q) ∧ H' (n + 1) = some (.arr 0 10 [.agg [bys f, bys t, .osl (n + 2) ver 0 acc.length, .nilsl, .int .i64 0, .int .i64 0, .int .i64 0, .bool false, .str [], .nilsl]]) ∧ H' (n + 2) = some (.arr ver 1 (acc.map fun x => .int .i64 x)) ∧ H' n = some (.arr 0 10 [.agg [.nilsl, .nilsl, .nilsl, .nilsl, .int .i64 0, .int .i64 0, .int .i64 0, .bool false, .str [], .nilsl]]) ∧ (∀ k, k < n → k ≠ kr → H' k = H k) ∧ n' = n + 3 ∧ Xh YC b (cnt - i) q acc = Ym YC b q2) (fun T' _ _ => cnt - iv (T' 11)) ?_ ?_
 ·refine ⟨0, q3, 0, [], Nat.zero_le _, rfl, by omega, rfl, by simp [Heap.put, hkn', hkn1', hkn2'], by simp [Heap.put], by simp [Heap.put], by simp [Heap.put, hkn], fun k hk2 hkr => by (simp only [MF]; (repeat rw [if_neg (by omega)])), rfl, ?_⟩
  unfold Ym; rw [g3]; rfl
 intro T1 H1 n1
 rintro ⟨i, q, ver, acc, hi, hal, hq, rfl, k1, k2, k4, k5, k3, rfl, hix⟩
 refine Za zs [0, 2, 3, 10, 11, 12] fun K Y => ?_
 simp only [go_sem, seval, bys]
 apply Y; clear Y K
 refine Zb fun K2 hK2 => ?_
 refine Ze ?_ ?_ <;> intro hb
 ·have hlt : i < cnt := by have := of_decide_eq_true hb; omega
  refine Zd ?_
  simp only [go_sem, seval, bys]
  apply hK2
  clear hK2 K2
  refine Zb fun K3 hK3 => ?_
  refine Zj ?_
  refine Qj rfl zs [0, 2, 3, 10, 11] [.q, .q, .m, .w [0, 1], .q, .w [], .q, .w []] [0, 1, 2, 3, 4, 5, 6, 7] [0, 1, 2, 3, 4, 5, 6, 7] (by kernel_rfl) (fun _ _ _ _ _ h => h) fun K Y => ?_
  simp only [go_sem, seval, k2, bys]
  refine Zi (args' := [.loc kr 0 0 0 []]) func69 rfl rfl rfl (ZT hb9 hq k1) ?_ ?_
  rotate_left
  ·intro e9 H9 n9 h9
   obtain ⟨h1, rfl, h2, h3⟩ := h9.die
   rw [ZY YC b hlt, h1] at hix
   refine .inr ⟨by unfold Wu; rw [g1, Option.bind_some, g2, Option.bind_some, ← hix]; rfl, rfl, by omega, fun k hk hkr => (h3 k (by omega) hkr).trans (k3 k hk hkr)⟩
  rintro rr H9 n9 h9
  obtain ⟨x, qx, gx, rfl, rfl, rfl⟩ := h9.get
  have hqx := YP gx
  simp only [go_sem, seval, k2, k4, hkn1, hkn2, List.length_map, AV.memOK.eq_5, bys]
  repeat (first | refine peel ?_ | (refine And.intro ?_ ?_; · first | exact ⟨rfl, by simp [AV.sz, AV.szs, AV.memOK]⟩ | exact ⟨by omega, .inr trivial, by omega, by omega⟩))
  apply Y; clear Y K
  simp only [go_sem, seval, bys]
  apply hK3
  clear hK3 K3
  refine Zl zs [0, 2, 3, 10, 11] fun K Y => ?_
  simp only [go_sem, seval, bys]
  apply Y; clear Y K
  simp only [go_sem, seval, k5, hkn, hkn1', hkn2', bys]
  refine ⟨⟨i + 1, qx, ver + 1, acc ++ [x], by omega, by simp [hal], hqx.1, by rw [w1 (by omega)], by simp [Heap.put, hkn', hkn1', hkn2'], ?_, ?_, fun k hk2 hkr => ?_, ?_⟩, by rw [w1 (by omega)]; simp; omega⟩
  ·simp [Heap.put, bys]
  ·simp [Heap.put, List.take_of_length_le]
  ·first | exact k3 k hk2 hkr | ((repeat rw [if_neg (by omega)]); exact k3 k hk2 hkr) | (simp only [MF]; (repeat rw [if_neg (by omega)]); exact k3 k hk2 hkr)
  ·rw [← hix, ZY YC b hlt, gx]; rfl
 have hge : i = cnt := by have := of_decide_eq_false hb; omega
 subst hge
 rw [Nat.sub_self] at hix
 have g4 : Ym YC b q2 = some (acc, q) := hix.symm
 refine ZA ?_
 simp only [go_sem, seval, bys]
 apply hK1
 refine Za zs [0, 2, 3] fun K Y => ?_
 simp only [go_sem, seval]
 refine Zi (args' := [.loc kr 0 0 0 []]) func71 rfl rfl rfl (ZN hb9 hq k1) ?_ ?_
 rotate_left
 ·intro e9 H9 n9 h9
  obtain ⟨h1, rfl, h2, h3⟩ := h9.die
  refine .inr ⟨by unfold Wu; simp [g1, g2, g4, h1, rav], rfl, by omega, fun k hk hkr => (h3 k (by omega) hkr).trans ?_⟩
  exact k3 k hk hkr
 rintro rr H9 n9 h9
 obtain ⟨pr, q5, g5, rfl, rfl, rfl⟩ := h9.get
 have hq5 := ZV g5
 simp only [go_sem, seval, bys]
 refine Zi (args' := [.loc kr 0 0 0 []]) func69 rfl rfl rfl (ZT hb9 hq5.1 (MG _ _ _)) ?_ ?_
 rotate_left
 ·intro e9 H9 n9 h9
  obtain ⟨h1, rfl, h2, h3⟩ := h9.die
  refine .inr ⟨by unfold Wu; simp [g1, g2, g4, g5, h1, rav], rfl, by omega, fun k hk hkr => (h3 k (by omega) hkr).trans ?_⟩
  (simp only [MF]; (repeat rw [if_neg (by omega)]); exact k3 k hk hkr)
 rintro rr H9 n9 h9
 obtain ⟨ti, q6, g6, rfl, rfl, rfl⟩ := h9.get
 have hq6 := YP g6
 simp only [go_sem, seval]
 refine Zi (args' := [.loc kr 0 0 0 []]) func69 rfl rfl rfl (ZT hb9 hq6.1 (MG _ _ _)) ?_ ?_
 rotate_left
 ·intro e9 H9 n9 h9
  obtain ⟨h1, rfl, h2, h3⟩ := h9.die
  refine .inr ⟨by unfold Wu; simp [g1, g2, g4, g5, g6, h1, rav], rfl, by omega, fun k hk hkr => (h3 k (by omega) hkr).trans ?_⟩
  (simp only [MF]; (repeat rw [if_neg (by omega)]); exact k3 k hk hkr)
 rintro rr H9 n9 h9
 obtain ⟨nn, q7, g7, rfl, rfl, rfl⟩ := h9.get
 have hq7 := YP g7
 simp only [go_sem, seval]
 refine Zi (args' := [.loc kr 0 0 0 []]) func69 rfl rfl rfl (ZT hb9 hq7.1 (MG _ _ _)) ?_ ?_
 rotate_left
 ·intro e9 H9 n9 h9
  obtain ⟨h1, rfl, h2, h3⟩ := h9.die
  refine .inr ⟨by unfold Wu; simp [g1, g2, g4, g5, g6, g7, h1, rav], rfl, by omega, fun k hk hkr => (h3 k (by omega) hkr).trans ?_⟩
  (simp only [MF]; (repeat rw [if_neg (by omega)]); exact k3 k hk hkr)
 rintro rr H9 n9 h9
 obtain ⟨rw9, q8, g8, rfl, rfl, rfl⟩ := h9.get
 have hq8 := YP g8
 simp only [go_sem, seval, k2, hkn1, AV.memOK.eq_5, bys]
 apply Y; clear Y K
 refine Za zs [0, 2, 3] fun K Y => ?_
 simp only [go_sem, seval]
 refine Zi (args' := [.loc kr 0 0 0 []]) func67 rfl rfl rfl (Yf hb9 hq8.1 (by simp [Heap.put, hkn, hkn', hkn1, hkn1', hkn2, hkn2'])) ?_ ?_
 rotate_left
 ·intro e9 H9 n9 h9
  obtain ⟨h1, rfl, h2, h3⟩ := h9.die
  refine .inr ⟨by unfold Wu; simp [g1, g2, g4, g5, g6, g7, g8, h1, rav], rfl, by omega, fun k hk hkr => (h3 k (by omega) hkr).trans ?_⟩
  (simp only [MF]; (repeat rw [if_neg (by omega)]); exact k3 k hk hkr)
 rintro rr H9 n9 h9
 obtain ⟨rv, q9, g9, rfl, rfl, rfl⟩ := h9.get
 have hq9 := XR g9
 simp only [go_sem, seval, hkn1, AV.memOK.eq_5]
 apply Y; clear Y K
 refine VY rfl zs [2, 3] [.m, .w [], .q, .m, .w [2, 5], .q, .w [], .q, .w []] [0, 3, 1, 2, 5, 4, 6, 7, 8] [0, 2, 3, 1, 5, 4, 6, 7, 8] (by kernel_rfl) (fun _ _ _ _ _ h => h) fun K Y => ?_
 simp only [go_sem, seval]
 refine Zi (args' := [.loc kr 0 0 0 []]) func71 rfl rfl rfl (ZN hb9 hq9.1 (by simp [Heap.put, hkn, hkn', hkn1, hkn1', hkn2, hkn2'])) ?_ ?_
 rotate_left
 ·intro e9 H9 n9 h9
  obtain ⟨h1, rfl, h2, h3⟩ := h9.die
  refine .inr ⟨by unfold Wu; simp [g1, g2, g4, g5, g6, g7, g8, g9, h1, rav], rfl, by omega, fun k hk hkr => (h3 k (by omega) hkr).trans ?_⟩
  (simp only [MF]; (repeat rw [if_neg (by omega)]); exact k3 k hk hkr)
 rintro rr H9 n9 h9
 obtain ⟨w, q10, g10, rfl, rfl, rfl⟩ := h9.get
 have hq10 := ZV g10
 simp only [go_sem, seval, Y0, bys]
 repeat (first | refine peel ?_ | refine ⟨by exact Y4 _, ?_⟩)
 refine Zi (args' := [.loc kr 0 0 0 []]) func71 rfl rfl rfl (ZN hb9 hq10.1 (MG _ _ _)) ?_ ?_
 rotate_left
 ·intro e9 H9 n9 h9
  obtain ⟨h1, rfl, h2, h3⟩ := h9.die
  refine .inr ⟨by unfold Wu; simp [g1, g2, g4, g5, g6, g7, g8, g9, g10, h1, rav], rfl, by omega, fun k hk hkr => (h3 k (by omega) hkr).trans ?_⟩
  (simp only [MF]; (repeat rw [if_neg (by omega)]); exact k3 k hk hkr)
 rintro rr H9 n9 h9
 obtain ⟨tk, q11, g11, rfl, rfl, rfl⟩ := h9.get
 have hq11 := ZV g11
 simp only [go_sem, seval, hkn1, AV.memOK.eq_5, bys]
 apply Y; clear Y K
 refine Za zs [2] fun K Y => ?_
 simp only [go_sem, seval, k5, hkn, AV.memOK.eq_5]
 apply Y; clear Y K
 refine Zf ?_
 simp only [go_sem, seval, hkn', hkn1']
 refine .inl ⟨_, Zq ⟨f, t, acc, pr, ti, nn, rw9, rv == 1, w, tk⟩, q11, rfl, by unfold Wu; simp [g1, g2, g4, g5, g6, g7, g8, g9, g10, g11, rav], rfl, fun k hk hkr => ?_, ?_⟩
 ·(repeat rw [if_neg (by omega)])
  exact k3 k hk hkr
 ·refine .agg (.cons (.kl (ZJ _ _)) ?_)
  refine .cons (.kl (ZJ _ _)) (.cons (.osl (e := 1) (els := acc.map fun x => .int .i64 x) ?_ (by omega) (by simp) ?_) (.cons (.kl (ZJ _ _)) (.cons (.kl trivial) (.cons (.kl trivial) (.cons (.kl trivial) (.cons (.kl trivial) (.cons (.kl trivial) (.cons (.kl (ZJ _ _)) .nil))))))))
  ·simp [Heap.put, hkn2, k4]
  ·rw [List.drop_zero, List.take_of_length_le (by simp)]
   exact YA _ (Xl (fun x : Int => .int .i64 x) (fun x => trivial) acc)
theorem Qc {ko : Nat} {v : Bool} {H : Heap} {n : Nat} (hO : H ko = some (.arr 0 1 [.bool v])) : XV prog 127 [.loc ko 0 0 0 []] .ret H n (fun m' H' n' => m' = .ret ∧ H' = H ∧ n' = n) := by
 refine UG zs [0, 1] 0 func127 rfl ntmps127 (congrArg Array.toList results127) (by simp) rfl (by show _ < _; decide) fun K Y => ?_
 simp only [go_sem, seval]
 apply Y; clear Y K
 refine ZE zs [0, 1, 6] ?_
 refine Ze ?_ ?_ <;> intro hb
 ·exact absurd hb (by decide) --dead
 refine Zd ?_
 simp only [go_sem, seval]
theorem Qd {ko : Nat} {v : Bool} {H : Heap} {n : Nat} (hk : ko < n) (hO : H ko = some (.arr 0 1 [.bool v])) : XV prog 127 [.loc ko 0 0 0 []] (.pan torn) H n (fun m' H' n' => m' = .ret ∧ n ≤ n' ∧ H' ko = some (.arr 0 1 [.bool false]) ∧ ∀ k, k < n → k ≠ ko → H' k = H k) := by
 unfold torn
 have hO2 : (ko = n) = False := by simp; omega
 refine UG zs [0, 1] 0 func127 rfl ntmps127 (congrArg Array.toList results127) (by simp) rfl (by show _ < _; decide) fun K Y => ?_
 simp only [go_sem, seval]
 apply Y; clear Y K
 refine Za zs [0, 1, 6] fun K Y => ?_
 simp only [go_sem, seval]
 apply Y; clear Y K
 refine Ze ?_ ?_ <;> intro hb
 ·refine Zb fun K1 hK1 => ?_
  refine Za zs [0, 1, 3] fun K Y => ?_
  simp only [go_sem, seval]
  repeat refine peel ?_
  apply Y; clear Y K
  refine Za zs [0, 1, 13] fun K Y => ?_
  simp only [go_sem, seval]
  apply Y; clear Y K
  refine Ze ?_ ?_ <;> intro hb
  ·exact absurd hb (by decide) --dead
  refine Zd ?_
  simp only [go_sem, seval]
  apply hK1
  clear hK1 K1
  refine Zl zs [] fun K Y => ?_
  simp only [go_sem, seval, hO, hO2]
  apply Y; clear Y K
  simp only [go_sem, seval]
  refine ⟨by omega, fun k h1 h2 => ?_⟩
  rw [if_neg h2, if_neg (by omega)]
 exact absurd hb (by decide) --dead
theorem QK {b : List UInt8} (hb9 : b.length ≤ 1048576) (steps : List (Nat × List AV)) (hl : steps.length ≤ 100) {H : Heap} {n : Nat} (St : Nat → Nat → Heap → Nat → Prop) (Die : Heap → Prop)
   (hS : ∀ i p H2 n2 H3 n3, St i p H2 n2 → (∀ k, k < n2 → k ≠ n → k ≠ n + 1 → H3 k = H2 k) → n2 ≤ n3 → St i p H3 n3)
   (hD : ∀ H2 H3, Die H2 → (∀ k, k < n → H3 k = H2 k) → Die H3)
   (h0 : St 0 0 H n)
   (hstep : ∀ i x, steps[i]? = some x → ∀ p H2 n2, p ≤ b.length → n + 2 ≤ n2 → H2 (n + 1) = some (rdO b p) → St i p H2 n2 →
     (∃ fn : Func, prog.funcs[x.1]? = some fn ∧ fn.body.isSome ∧ (fn.name == "runtime.NumGoroutine") = false) ∧ Zx prog x.1 (.loc (n + 1) 0 0 0 [] :: x.2) H2 n2 (fun res H3 n3 =>
       (∃ q, res = .val (.tup []) ∧ q ≤ b.length ∧ H3 (n + 1) = some (rdO b q) ∧ H3 n = H2 n ∧ n2 ≤ n3 ∧ St (i + 1) q H3 n3) ∨ (res = .pan torn ∧ H3 n = H2 n ∧ n2 ≤ n3 ∧ Die H3))) :
   Zx prog 65 [bys b, .sl 1 (steps.map fun x => .fn (.func x.1) [] x.2)] H n (fun res H' n' => n + 2 ≤ n' ∧ ((∃ p, p ≤ b.length ∧ res = .val (.bool ((p : Int) == b.length)) ∧ St steps.length p H' n') ∨ (res = .val (.bool false) ∧ Die H'))) := by
 refine Ql func65 rfl ntmps65 (congrArg Array.toList results65) (by simp) ?_
 simp only [go_sem]
 refine awpD_reg zs [0, 1, 4] fun K Y => ?_
 simp only [go_sem, seval]
 apply Y; clear Y K
 refine awpD_def zs [0, 1, 4] 1 rfl trivial fun K Y => ?_
 simp only [go_sem, seval, strip.eq_2]
 refine ⟨⟨_, func127, rfl, rfl⟩, ?_⟩
 apply Y; clear Y K
 refine Za zs [0, 1, 4, 5] fun K Y => ?_
 simp only [go_sem, seval, AV.memOK.eq_5, strip.eq_2]
 repeat refine peel ?_
 apply Y; clear Y K
 refine Zb fun K1 hK1 => ?_
 refine Za zs [0, 4, 5, 12, 13, 14] fun K Y => ?_
 simp only [go_sem, seval, List.length_map, strip.eq_2]
 apply Y; clear Y K
 refine Zj ?_
 refine Zz (fun T' H' n' => ∃ (i p : Nat), i ≤ steps.length ∧ p ≤ b.length ∧ T' = tl [(0, bys b), (4, .loc n 0 0 0 []), (5, .loc (n + 1) 0 0 0 []), (12, .sl 1 (steps.map fun x => .fn (.func x.1) [] x.2)), (13, .int .i64 steps.length), (14, .int .i64 i)] ∧ H' n = some (.arr 0 1 [.bool false]) ∧ H' (n + 1) = some (rdO b p) ∧ n + 2 ≤ n' ∧ St i p H' n') (fun T' _ _ => steps.length - iv (T' 14)) ?_ ?_
 ·exact ⟨0, 0, Nat.zero_le _, Nat.zero_le _, by simp [bys], by simp [Heap.put], by simp [Heap.put, rdO, bys], by omega, hS _ _ _ _ _ _ h0 (fun k h1 h2 h3 => by simp [Heap.put, h2, h3]) (by omega)⟩
 intro T1 H1 n1
 rintro ⟨i, p, hi, hp, rfl, k1, k2, hn, hst⟩
 refine Za zs [0, 4, 5, 12, 13, 14, 15] fun K Y => ?_
 simp only [go_sem, seval, bys, Int.toNat_natCast, strip.eq_2]
 apply Y; clear Y K
 refine Zb fun K2 hK2 => ?_
 refine Ze ?_ ?_ <;> intro hb
 ·have hlt : i < steps.length := by have := of_decide_eq_true hb; omega
  obtain ⟨x, hx⟩ : ∃ x, steps[i]? = some x := ⟨_, List.getElem?_eq_getElem hlt⟩
  have hnx : nth (steps.map fun x => AV.fn (.func x.1) [] x.2) i = .fn (.func x.1) [] x.2 := by simp [nth, hx]
  refine Zd ?_
  simp only [go_sem, seval, bys, Int.toNat_natCast]
  apply hK2
  clear hK2 K2
  refine Zb fun K3 hK3 => ?_
  refine Zj ?_
  refine Za zs [0, 4, 5, 7, 12, 13, 14] fun K Y => ?_
  simp only [go_sem, seval, bys, List.length_map, Int.toNat_natCast, strip.eq_2, hnx]
  repeat refine peel ?_
  apply Y; clear Y K
  refine Zl zs [0, 4, 5, 12, 13, 14] fun K Y => ?_
  simp only [go_sem, seval, bys, Int.toNat_natCast, strip.eq_2]
  refine .inl ⟨(hstep i x hx p _ _ hp hn k2 hst).1, (hstep i x hx p _ _ hp hn k2 hst).2.mono ?_⟩
  rintro rr H9 n9 (⟨q, rfl, hq, h1, h2, h3, h4⟩ | ⟨rfl, h1, h2, h3⟩)
  rotate_left
  ·refine (Qd (ko := n) (v := false) (by omega) (h1.trans k1)).mono ?_
   rintro m' H' n' ⟨rfl, g1, g2, g3⟩
   simp only [FinA, go_sem, seval, g2]
   exact ⟨by omega, .inr (hD _ _ h3 (fun k hk => g3 k (by omega) (by omega)))⟩
  simp only [go_sem, seval]
  apply Y; clear Y K
  simp only [go_sem, seval, bys, Int.toNat_natCast]
  apply hK3
  clear hK3 K3
  refine Zl zs [0, 4, 5, 12, 13, 14] fun K Y => ?_
  simp only [go_sem, seval, bys, Int.toNat_natCast, strip.eq_2]
  apply Y; clear Y K
  simp only [go_sem, seval, bys, Int.toNat_natCast]
  refine ⟨⟨i + 1, q, by omega, hq, by rw [w1 (by omega)], h2.trans k1, h1, by omega, h4⟩, by rw [w1 (by omega)]; simp; omega⟩
 have hge : i = steps.length := by have := of_decide_eq_false hb; omega
 subst hge
 refine ZA ?_
 simp only [go_sem, seval, bys, Int.toNat_natCast]
 apply hK1
 refine Za zs [4] fun K Y => ?_
 simp only [go_sem, seval, AV.memOK.eq_5, bys, List.length_map, strip.eq_2, k1, k2, rdO]
 apply Y; clear Y K
 refine Zf ?_
 simp only [go_sem, seval]
 refine (Qc (ko := n) (MG _ _ _)).mono ?_
 rintro m' H' n' ⟨rfl, rfl, rfl⟩
 simp only [FinA, go_sem, seval, MG]
 exact ⟨by omega, .inl ⟨p, hp, rfl, hS _ _ _ _ _ _ hst (fun k h1 h2 h3 => ME _ _ h2) (Nat.le_refl _)⟩⟩
end Go.Proofs.YtifnhpmeoogedaaGreatDoor
namespace Go.Rt
open Go Go.Sx
def StK (torn : AV) (kr kc kk : Nat) (b : List UInt8) (H : Heap) (n : Nat) (r : Option (CmdE × Nat)) (res : ARes) (H' : Heap) (n' : Nat) : Prop :=
 match r with
 | some x => res = .val (.tup []) ∧ n' = n ∧ x.2 ≤ b.length ∧ H' kr = some (rdO b x.2) ∧ H' kc = some (.arr 0 17 [Zh x.1]) ∧ H' kk = some (.arr 0 5 [Zo x.1.kind]) ∧ ∀ k, k < n → k ≠ kr → k ≠ kc → k ≠ kk → H' k = H k
 | none => res = .pan torn ∧ n ≤ n' ∧ ∀ k, k < n → k ≠ kr → k ≠ kc → k ≠ kk → H' k = H k
section
variable {torn : AV} {kr kc kk : Nat} {b : List UInt8} {H : Heap} {n : Nat} {r : Option (CmdE × Nat)} {H' : Heap} {n' : Nat}
theorem StK.som {c : CmdE} {q : Nat} (hr : r = some (c, q)) (hn : n' = n) (hq : q ≤ b.length) (h1 : H' kr = some (rdO b q)) (h2 : H' kc = some (.arr 0 17 [Zh c])) (h3 : H' kk = some (.arr 0 5 [Zo c.kind])) (h4 : ∀ k, k < n → k ≠ kr → k ≠ kc → k ≠ kk → H' k = H k) : StK torn kr kc kk b H n r (.val (.tup [])) H' n' := by
 subst hr; exact ⟨rfl, hn, hq, h1, h2, h3, h4⟩
theorem StK.non (hr : r = none) (hn : n ≤ n') (h4 : ∀ k, k < n → k ≠ kr → k ≠ kc → k ≠ kk → H' k = H k) : StK torn kr kc kk b H n r (.pan torn) H' n' := by
 subst hr; exact ⟨rfl, hn, h4⟩
end
theorem rdMany_le {α : Type} {rd : List UInt8 → Nat → Option (α × Nat)} {b : List UInt8} (hrd : ∀ {p x q}, rd b p = some (x, q) → q ≤ b.length) : ∀ {k p : Nat} {acc l : List α} {q : Nat}, p ≤ b.length → Xh rd b k p acc = some (l, q) → q ≤ b.length
 | 0, p, acc, l, q, hp, h => by simp only [Xh, Option.some.injEq, Prod.mk.injEq] at h; omega
 | k + 1, p, acc, l, q, hp, h => by
   simp only [Xh, Option.bind_eq_some_iff] at h
   obtain ⟨⟨x, p2⟩, h1, h2⟩ := h
   exact rdMany_le hrd (hrd h1) h2
theorem Lu {α : Type} {rd : List UInt8 → Nat → Option (α × Nat)} {b : List UInt8} : ∀ {k p : Nat} {acc l : List α} {q : Nat}, Xh rd b k p acc = some (l, q) → l.length = k + acc.length
 | 0, p, acc, l, q, h => by simp only [Xh, Option.some.injEq, Prod.mk.injEq] at h; rw [← h.1]; omega
 | k + 1, p, acc, l, q, h => by
   simp only [Xh, Option.bind_eq_some_iff] at h
   obtain ⟨⟨x, p2⟩, h1, h2⟩ := h
   have := Lu h2
   simp at this; omega
theorem Lv {α : Type} {rd : List UInt8 → Nat → Option (α × Nat)} {b : List UInt8} {A : α → Prop} (hrd : ∀ {p x q}, rd b p = some (x, q) → A x) : ∀ {k p : Nat} {acc l : List α} {q : Nat}, (∀ x ∈ acc, A x) → Xh rd b k p acc = some (l, q) → ∀ x ∈ l, A x
 | 0, p, acc, l, q, ha, h => by simp only [Xh, Option.some.injEq, Prod.mk.injEq] at h; rw [← h.1]; exact ha
 | k + 1, p, acc, l, q, ha, h => by
   simp only [Xh, Option.bind_eq_some_iff] at h
   obtain ⟨⟨x, p2⟩, h1, h2⟩ := h
   refine Lv hrd (fun y hy => ?_) h2
   rcases List.mem_append.1 hy with hy | hy
   ·exact ha y hy
   ·rw [List.mem_singleton.1 hy]; exact hrd h1
theorem Uf {α : Type} {rd : List UInt8 → Nat → Option (α × Nat)} {b : List UInt8} (hrd : ∀ {p x q}, rd b p = some (x, q) → q ≤ b.length) {p q : Nat} {l : List α} (h : Ym rd b p = some (l, q)) : q ≤ b.length ∧ l.length ≤ b.length := by
 simp only [Ym, Option.bind_eq_some_iff] at h
 obtain ⟨⟨x, p2⟩, h1, h2⟩ := h
 have h3 := WG h1
 exact ⟨rdMany_le hrd (by omega) h2, by have := Lu h2; simp at this; omega⟩
theorem Ut {α : Type} {rd : List UInt8 → Nat → Option (α × Nat)} {b : List UInt8} {A : α → Prop} (hrd : ∀ {p x q}, rd b p = some (x, q) → A x) {p q : Nat} {l : List α} (h : Ym rd b p = some (l, q)) : ∀ x ∈ l, A x := by
 simp only [Ym, Option.bind_eq_some_iff] at h
 obtain ⟨⟨x, p2⟩, h1, h2⟩ := h
 exact Lv hrd (by simp) h2
theorem rdCond_le {b : List UInt8} {p q : Nat} {x : YF} (h : YS b p = some (x, q)) : q ≤ b.length ∧ x.qual.length ≤ b.length ∧ x.value.length ≤ b.length := by
 simp only [YS, Option.bind_eq_some_iff] at h
 obtain ⟨⟨k, p1⟩, h1, ⟨f, p2⟩, h2, ⟨qq, p3⟩, h3, ⟨v, p4⟩, h4, h5⟩ := h
 simp only [Option.some.injEq, Prod.mk.injEq] at h5
 obtain ⟨rfl, rfl⟩ := h5
 have e3 := ZV h3
 have e4 := ZV h4
 exact ⟨by omega, by show qq.length ≤ _; omega, by show v.length ≤ _; omega⟩
theorem rdOp_le {b : List UInt8} {p q : Nat} {x : OpE} (h : rdOp b p = some (x, q)) : q ≤ b.length ∧ x.qual.length ≤ b.length ∧ x.value.length ≤ b.length := by
 simp only [rdOp, Option.bind_eq_some_iff] at h
 obtain ⟨⟨k, p1⟩, h1, ⟨f, p2⟩, h2, ⟨qq, p3⟩, h3, ⟨t, p4⟩, h4, ⟨v, p5⟩, h5, ⟨d, p6⟩, h6, h7⟩ := h
 simp only [Option.some.injEq, Prod.mk.injEq] at h7
 obtain ⟨rfl, rfl⟩ := h7
 have e3 := ZV h3
 have e5 := ZV h5
 have e6 := Lx h6
 exact ⟨by omega, by show qq.length ≤ _; omega, by show v.length ≤ _; omega⟩
theorem LA {b : List UInt8} {p q : Nat} {l : List YF} (h : Ym YS b p = some (l, q)) : q ≤ b.length ∧ l.length ≤ b.length := Uf (fun h => (rdCond_le h).1) h
theorem rdOps_le {b : List UInt8} {p q : Nat} {l : List OpE} (h : Ym rdOp b p = some (l, q)) : q ≤ b.length ∧ l.length ≤ b.length := Uf (fun h => (rdOp_le h).1) h
theorem rdQry_le {b : List UInt8} {p q : Nat} {x : QryE} (h : Wu b p = some (x, q)) : q ≤ b.length ∧ x.frm.length ≤ b.length ∧ x.to.length ≤ b.length ∧ x.fams.length ≤ b.length ∧ x.pre.length ≤ b.length ∧ x.whr.length ≤ b.length ∧ x.token.length ≤ b.length := by
 simp only [Wu, Option.bind_eq_some_iff] at h
 obtain ⟨⟨a1, p1⟩, h1, ⟨a2, p2⟩, h2, ⟨a3, p3⟩, h3, ⟨a4, p4⟩, h4, ⟨a5, p5⟩, h5, ⟨a6, p6⟩, h6, ⟨a7, p7⟩, h7, ⟨a8, p8⟩, h8, ⟨a9, p9⟩, h9, ⟨a10, p10⟩, h10, h11⟩ := h
 simp only [Option.some.injEq, Prod.mk.injEq] at h11
 obtain ⟨rfl, rfl⟩ := h11
 have e1 := ZV h1
 have e2 := ZV h2
 have e3 := Uf (fun h => (YP h).1) h3
 have e4 := ZV h4
 have e9 := ZV h9
 have e10 := ZV h10
 exact ⟨by omega, by show a1.length ≤ _; omega, by show a2.length ≤ _; omega, by show a3.length ≤ _; omega, by show a4.length ≤ _; omega, by show a9.length ≤ _; omega, by show a10.length ≤ _; omega⟩
theorem KS : zc.fits := ⟨by simp [zc], by simp [zc], by simp [zc], by simp [zc], by simp [zc], by simp [zc, zq], by simp [zc, zq], by simp [zc, zq], by simp [zc, zq], by simp [zc, zq], by simp [zc, zq]⟩
theorem rs1_fits {b : List UInt8} {p q : Nat} {c : CmdE} (h : rs1 b p = some (c, q)) : c.fits ∧ 1 ≤ c.kind ∧ c.kind ≤ 7 := by
 simp only [rs1, Option.bind_eq_some_iff] at h
 obtain ⟨⟨k, p1⟩, h1, h2⟩ := h
 split at h2
 ·cases h2
 ·rename_i hb
  simp only [Option.some.injEq, Prod.mk.injEq] at h2
  obtain ⟨rfl, rfl⟩ := h2
  have z := KS
  simp only [bout, Bool.not_eq_true] at hb
  refine ⟨⟨z.1, z.2, z.3, z.4, z.5, z.6, z.7, z.8, z.9, z.10, z.11⟩, ?_, ?_⟩ <;> (simp at hb; simp only []; omega)
theorem rs2_fits {b : List UInt8} {p q : Nat} {c c' : CmdE} (hc : c.fits) (h : rs2 b c p = some (c', q)) : c'.fits ∧ c'.kind = c.kind := by
 simp only [rs2] at h
 split at h
 ·simp only [Option.bind_eq_some_iff] at h
  obtain ⟨x, h1, y, h2, h3⟩ := h
  simp only [Option.some.injEq, Prod.mk.injEq] at h3
  obtain ⟨rfl, rfl⟩ := h3
  exact ⟨⟨hc.1, hc.2, hc.3, hc.4, hc.5, hc.6, hc.7, hc.8, hc.9, hc.10, hc.11⟩, rfl⟩
 ·simp only [Option.some.injEq, Prod.mk.injEq] at h
  obtain ⟨rfl, rfl⟩ := h
  exact ⟨hc, rfl⟩
theorem rs3_fits {b : List UInt8} {p q : Nat} {c c' : CmdE} (hb : b.length ≤ 1048576) (hc : c.fits) (h : rs3 b c p = some (c', q)) : c'.fits ∧ c'.kind = c.kind := by
 simp only [rs3] at h
 split at h
 ·simp only [Option.bind_eq_some_iff] at h
  obtain ⟨⟨x, p1⟩, h1, ⟨y, p2⟩, h2, ⟨z, p3⟩, h3, h4⟩ := h
  simp only [Option.some.injEq, Prod.mk.injEq] at h4
  obtain ⟨rfl, rfl⟩ := h4
  have e1 := ZV h1
  have e2 := LA h2
  have e3 := rdOps_le h3
  have f2 := Ut (A := fun x : YF => x.qual.length ≤ b.length ∧ x.value.length ≤ b.length) (fun h => (rdCond_le h).2) h2
  have f3 := Ut (A := fun x : OpE => x.qual.length ≤ b.length ∧ x.value.length ≤ b.length) (fun h => (rdOp_le h).2) h3
  exact ⟨⟨by show x.length ≤ _; omega, by show y.length ≤ _; omega, fun u hu => by have := f2 u hu; omega, by show z.length ≤ _; omega, fun u hu => by have := f3 u hu; omega, hc.6, hc.7, hc.8, hc.9, hc.10, hc.11⟩, rfl⟩
 ·simp only [Option.some.injEq, Prod.mk.injEq] at h
  obtain ⟨rfl, rfl⟩ := h
  exact ⟨hc, rfl⟩
theorem rs4_fits {b : List UInt8} {p q : Nat} {c c' : CmdE} (hc : c.fits) (h : rs4 b c p = some (c', q)) : c'.fits ∧ c'.kind = c.kind := by
 simp only [rs4] at h
 split at h
 ·simp only [Option.bind_eq_some_iff] at h
  obtain ⟨x, h1, h3⟩ := h
  simp only [Option.some.injEq, Prod.mk.injEq] at h3
  obtain ⟨rfl, rfl⟩ := h3
  exact ⟨⟨hc.1, hc.2, hc.3, hc.4, hc.5, hc.6, hc.7, hc.8, hc.9, hc.10, hc.11⟩, rfl⟩
 ·simp only [Option.some.injEq, Prod.mk.injEq] at h
  obtain ⟨rfl, rfl⟩ := h
  exact ⟨hc, rfl⟩
theorem rs5_fits {b : List UInt8} {p q : Nat} {c c' : CmdE} (hb : b.length ≤ 1048576) (hc : c.fits) (h : rs5 b c p = some (c', q)) : c'.fits ∧ c'.kind = c.kind := by
 simp only [rs5] at h
 split at h
 ·simp only [Option.bind_eq_some_iff] at h
  obtain ⟨⟨x, p1⟩, h1, h3⟩ := h
  simp only [Option.some.injEq, Prod.mk.injEq] at h3
  obtain ⟨rfl, rfl⟩ := h3
  have e := rdQry_le h1
  exact ⟨⟨hc.1, hc.2, hc.3, hc.4, hc.5, by show x.frm.length ≤ _; omega, by show x.to.length ≤ _; omega, by show x.fams.length ≤ _; omega, by show x.pre.length ≤ _; omega, by show x.whr.length ≤ _; omega, by show x.token.length ≤ _; omega⟩, rfl⟩
 ·simp only [Option.some.injEq, Prod.mk.injEq] at h
  obtain ⟨rfl, rfl⟩ := h
  exact ⟨hc, rfl⟩
theorem Xi {b : List UInt8} {c : CmdE} (hb : b.length ≤ 1048576) (h : Wv b = some c) : c.fits ∧ 1 ≤ c.kind ∧ c.kind ≤ 7 := by
 simp only [Wv, Option.bind_eq_some_iff] at h
 obtain ⟨⟨c1, p1⟩, h1, ⟨c2, p2⟩, h2, ⟨c3, p3⟩, h3, ⟨c4, p4⟩, h4, ⟨c5, p5⟩, h5, h6⟩ := h
 split at h6
 ·cases h6
  have e1 := rs1_fits h1
  have e2 := rs2_fits e1.1 h2
  have e3 := rs3_fits hb e2.1 h3
  have e4 := rs4_fits e3.1 h4
  have e5 := rs5_fits hb e4.1 h5
  refine ⟨e5.1, ?_⟩
  rw [e5.2, e4.2, e3.2, e2.2]; exact e1.2
 ·cases h6
def rsi (i : Nat) (b : List UInt8) (c : CmdE) (p : Nat) : Option (CmdE × Nat) := match i with
 | 0 => rs1 b p
 | 1 => rs2 b c p
 | 2 => rs3 b c p
 | 3 => rs4 b c p
 | _ => rs5 b c p
def rch (b : List UInt8) : Nat → Option (CmdE × Nat)
 | 0 => some (zc, 0)
 | i + 1 => (rch b i).bind fun x => rsi i b x.1 x.2
theorem rch_none {b : List UInt8} {i : Nat} (h : rch b i = none) : ∀ j, rch b (i + j) = none
 | 0 => h
 | j + 1 => by show (rch b (i + j)).bind _ = none; rw [rch_none h j]; rfl
theorem rch_dead {b : List UInt8} {i k : Nat} (h : rch b i = none) (hik : i ≤ k) : rch b k = none := by
 have := rch_none h (k - i)
 rwa [show i + (k - i) = k by omega] at this
theorem rdCmd_rch (b : List UInt8) : Wv b = (rch b 5).bind fun x => if x.2 = b.length then some x.1 else none := by
 simp only [Wv, rch, rsi, Option.bind_some, Option.bind_assoc]
def decC (qc : QryE → Int) (s : List Fml) (b : List UInt8) : CmdE × Int :=
 if Z8 s ≠ 0 then (zc, 28) else if 98304 < b.length then (zc, 2) else match Wv b with
   | some c => if ZB (qc c.q) s c = 0 ∧ cmdB c = b then (c, 0) else (zc, 140)
   | none => (zc, 140)
def cmdZ : AV := .agg [.int .i64 0, .int .i64 0, .int .i64 0, .nilsl, .nilsl, .nilsl, .int .i64 0, .agg [.nilsl, .nilsl, .nilsl, .nilsl, .int .i64 0, .int .i64 0, .int .i64 0, .bool false, .str [], .nilsl]]
theorem cmdZ_wk : Wk cmdZ (Zh zc) := Wk.agg ⟨.refl _, .refl _, .refl _, .nilsl _, .nilsl _, .nilsl _, .refl _, Wk.agg ⟨.nilsl _, .nilsl _, .nilsl _, .nilsl _, .refl _, .refl _, .refl _, .refl _, .refl _, .nilsl _, trivial⟩, trivial⟩
theorem U6 (H : Heap) (n : Nat) : Frz H n cmdZ (Zh zc) := .agg (.cons (.kl trivial) (.cons (.kl trivial) (.cons (.kl trivial) (.cons .nilsl (.cons .nilsl (.cons .nilsl (.cons (.kl trivial) (.cons (.agg (.cons .nilsl (.cons .nilsl (.cons .nilsl (.cons .nilsl (.cons (.kl trivial) (.cons (.kl trivial) (.cons (.kl trivial) (.cons (.kl trivial) (.cons (.kl trivial) (.cons .nilsl .nil))))))))))) .nil))))))))
theorem UY (c : CmdE) (n : Nat) : (Zh c).kl n := ⟨trivial, trivial, trivial, ZJ _ _, Xl Zu (fun x => kl_condAV x n) _, Xl opAV (fun x => kl_opAV x n) _, trivial, ⟨ZJ _ _, ZJ _ _, Xl (fun x : Int => .int .i64 x) (fun _ => trivial) _, ZJ _ _, trivial, trivial, trivial, trivial, trivial, ZJ _ _, trivial⟩, trivial⟩
theorem W9 {x : Option (Prop × AV)} {k : AV → Prop} (h : ∀ r, k (.opt false r)) : Xf false x k := by
 cases x with
 | none => exact ⟨rfl, h _⟩
 | some p => exact ⟨fun h => (nomatch h), h _⟩
end Go.Rt
namespace Go.Proofs.YtifnhpmeoogedaaGreatDoor
open Go Go.Sx Go.Rt Go.Proofs Tryz
set_option maxRecDepth 100000 in
set_option maxHeartbeats 3200000 in
theorem JI {b : List UInt8} {p kr kc kk : Nat} {c : CmdE} (hb9 : b.length ≤ 1048576) (hp : p ≤ b.length) {H : Heap} {n : Nat} (hz : c = zc) (hG : GOK 0 2 H n) (hgr : 0 < kr) (hgc : 0 < kc) (hgk : 0 < kk) (hr : kr < n) (hc : kc < n) (hk : kk < n) (h12 : kr ≠ kc) (h13 : kr ≠ kk) (h23 : kc ≠ kk) (hR : H kr = some (rdO b p)) (hC : H kc = some (.arr 0 17 [Zh c])) (hD : H kk = some (.arr 0 5 [Zo c.kind])) : Zx prog 66 [.loc kr 0 0 0 [], .loc kc 0 0 0 [], .loc kk 0 0 0 []] H n (StK torn kr kc kk b H n (rs1 b p)) := by
 have hb9' := hb9
 replace hb9 : b.length ≤ 1099511627776 := by omega
 have e1 : (kr = kc) = False := by simp [h12]
 have e1' : (kc = kr) = False := by simp [Ne.symm h12]
 have e2 : (kr = kk) = False := by simp [h13]
 have e2' : (kk = kr) = False := by simp [Ne.symm h13]
 have e3 : (kc = kk) = False := by simp [h23]
 have e3' : (kk = kc) = False := by simp [Ne.symm h23]
 have hszq : (Zq c.q).sz = 10 := Yj c.q
 have hagq : (Zq c.q).isAgg = true := rfl
 have hmoq : (Zq c.q).memOK = true := rfl
 subst hz
 have hGK := hG.kinds
 have hkl : XX.length = 8 := rfl
 refine Zc func66 rfl ntmps66 (congrArg Array.toList results66) (by simp) ?_
 simp only [go_sem]
 have f1 : (0 = kr) = False := by simp; omega
 have f2 : (0 = kc) = False := by simp; omega
 refine Za zs [1, 2] fun K Y => ?_
 simp only [go_sem, seval]
 refine Zi (args' := [.loc kr 0 0 0 []]) func67 rfl rfl rfl (Yf hb9 hp hR) ?_ ?_
 rotate_left
 ·intro e9 H9 n9 h9
  obtain ⟨h1, rfl, h2, h3⟩ := h9.die
  refine .non (by unfold rs1; simp [h1]) (by omega) fun k hk1 hk2 hk3 hk4 => (h3 k (by omega) hk2).trans ?_
  rfl
 rintro rr H9 n9 h9
 obtain ⟨x, q1, g1, rfl, rfl, rfl⟩ := h9.get
 have hq1 := XR g1
 simp only [go_sem, seval, hC, e1', Zh, AV.memOK.eq_5, bys]
 apply Y; clear Y K
 refine Zb fun K1 hK1 => ?_
 refine Za zs [1, 2, 9] fun K Y => ?_
 simp only [go_sem, seval]
 refine Zg func48 rfl rfl rfl ((ZU x 1 7 _ _)) ?_
 apply Y; clear Y K
 refine Ze ?_ ?_ <;> intro hb
 ·replace hb : bout x 1 7 = true := hb
  refine VM zs 2 rfl trivial ?_
  simp only [go_sem, seval]
  refine .non (by unfold rs1; simp [g1, hb]) (by omega) fun k hk1 hk2 hk3 hk4 => ?_
  simp only [MF]; (repeat rw [if_neg (by omega)])
 replace hb : bout x 1 7 = false := hb
 have hx1 : 1 ≤ x ∧ x ≤ 7 := by simp [bout] at hb; omega
 have hkn : nth XX x.toNat = Zo x := QY (by omega) (by omega)
 refine Zd ?_
 simp only [go_sem, seval]
 apply hK1
 clear hK1 K1
 refine Zl zs [] fun K Y => ?_
 simp only [go_sem, seval, hD, e2', e3', Zo, AV.memOK.eq_5, f1, f2, hGK, hkl, hkn]
 repeat refine peel ?_
 apply Y; clear Y K
 simp only [go_sem, seval]
 refine .som (c := { zc with kind := x }) (q := q1) (by unfold rs1; simp [g1, hb]) rfl hq1.1 (by simp [Heap.put, e1, e1', e2, e2', e3, e3']) (by simp [Heap.put, e1, e1', e2, e2', e3, e3', Zh, bys, hC]) (by simp [Heap.put, e1, e1', e2, e2', e3, e3', Zo, hD]) fun k hk1 hk2 hk3 hk4 => by simp only [MF]; (repeat rw [if_neg (by omega)])
set_option maxRecDepth 100000 in
set_option maxHeartbeats 3200000 in
theorem JH {b : List UInt8} {p kr kc kk : Nat} {c : CmdE} (hb9 : b.length ≤ 1048576) (hp : p ≤ b.length) {H : Heap} {n : Nat} (hr : kr < n) (hc : kc < n) (hk : kk < n) (h12 : kr ≠ kc) (h13 : kr ≠ kk) (h23 : kc ≠ kk) (hR : H kr = some (rdO b p)) (hC : H kc = some (.arr 0 17 [Zh c])) (hD : H kk = some (.arr 0 5 [Zo c.kind])) : Zx prog 68 [.loc kr 0 0 0 [], .loc kk 0 0 0 [], .loc kc 0 0 0 []] H n (StK torn kr kc kk b H n (rs2 b c p)) := by
 have hb9' := hb9
 replace hb9 : b.length ≤ 1099511627776 := by omega
 have e1 : (kr = kc) = False := by simp [h12]
 have e1' : (kc = kr) = False := by simp [Ne.symm h12]
 have e2 : (kr = kk) = False := by simp [h13]
 have e2' : (kk = kr) = False := by simp [Ne.symm h13]
 have e3 : (kc = kk) = False := by simp [h23]
 have e3' : (kk = kc) = False := by simp [Ne.symm h23]
 have hszq : (Zq c.q).sz = 10 := Yj c.q
 have hagq : (Zq c.q).isAgg = true := rfl
 have hmoq : (Zq c.q).memOK = true := rfl
 refine Zc func68 rfl ntmps68 (congrArg Array.toList results68) (by simp) ?_
 simp only [go_sem]
 refine Za zs [0, 2, 9] fun K Y => ?_
 simp only [go_sem, seval, hD, Zo]
 repeat refine peel ?_
 apply Y; clear Y K
 refine Ze ?_ ?_ <;> intro hb
 ·have hb4 : (ZQ c.kind || YQ c.kind) = true := by cases h : ZQ c.kind <;> simp_all
  refine Za zs [0, 2] fun K Y => ?_
  simp only [go_sem, seval]
  refine Zi (args' := [.loc kr 0 0 0 []]) func69 rfl rfl rfl (ZT hb9 hp hR) ?_ ?_
  rotate_left
  ·intro e9 H9 n9 h9
   obtain ⟨h1, rfl, h2, h3⟩ := h9.die
   refine .non (by unfold rs2; simp [hb4, h1]) (by omega) fun k hk1 hk2 hk3 hk4 => (h3 k (by omega) hk2).trans ?_
   rfl
  rintro rr H9 n9 h9
  obtain ⟨x, q1, g1, rfl, rfl, rfl⟩ := h9.get
  have hq1 := YP g1
  simp only [go_sem, seval, hC, e1', Zh, AV.memOK.eq_5, bys]
  apply Y; clear Y K
  refine Zl zs [] fun K Y => ?_
  simp only [go_sem, seval]
  refine Zi (args' := [.loc kr 0 0 0 []]) func69 rfl rfl rfl (ZT hb9 hq1.1 (by simp [Heap.put, hR, e1, e1', e2, e2', e3, e3'])) ?_ ?_
  rotate_left
  ·intro e9 H9 n9 h9
   obtain ⟨h1, rfl, h2, h3⟩ := h9.die
   refine .non (by unfold rs2; simp [hb4, g1, h1]) (by omega) fun k hk1 hk2 hk3 hk4 => (h3 k (by omega) hk2).trans ?_
   (simp only [MF]; (repeat rw [if_neg (by omega)]))
  rintro rr H9 n9 h9
  obtain ⟨y, q2, g2, rfl, rfl, rfl⟩ := h9.get
  have hq2 := YP g2
  simp only [go_sem, seval, e1', AV.memOK.eq_5]
  apply Y; clear Y K
  simp only [go_sem, seval]
  first | skip
  (refine .som (c := { c with client := x, serial := y }) (q := q2) (by unfold rs2; simp [hb4, g1, g2]) rfl hq2.1 (by simp [Heap.put, e1, e1', e2, e2', e3, e3']) (by simp [Heap.put, e1, e1', e2, e2', e3, e3', Zh, bys]) (by simp [Heap.put, e1, e1', e2, e2', e3, e3', Zo, hD]) fun k hk1 hk2 hk3 hk4 => by simp only [MF]; (repeat rw [if_neg (by omega)]))
 have hb4 : (ZQ c.kind || YQ c.kind) = false := by cases h : ZQ c.kind <;> simp_all
 refine Zd ?_
 simp only [go_sem, seval]
 first | skip
 (exact .som (c := c) (q := p) (by unfold rs2; simp [hb4]) rfl hp hR hC hD fun k hk1 hk2 hk3 hk4 => rfl)
set_option maxRecDepth 100000 in
set_option maxHeartbeats 3200000 in
theorem JG {b : List UInt8} {p kr kc kk : Nat} {c : CmdE} (hb9 : b.length ≤ 1048576) (hp : p ≤ b.length) {H : Heap} {n : Nat} (hr : kr < n) (hc : kc < n) (hk : kk < n) (h12 : kr ≠ kc) (h13 : kr ≠ kk) (h23 : kc ≠ kk) (hR : H kr = some (rdO b p)) (hC : H kc = some (.arr 0 17 [Zh c])) (hD : H kk = some (.arr 0 5 [Zo c.kind])) : Zx prog 70 [.loc kr 0 0 0 [], .loc kk 0 0 0 [], .loc kc 0 0 0 []] H n (StK torn kr kc kk b H n (rs3 b c p)) := by
 have hb9' := hb9
 replace hb9 : b.length ≤ 1099511627776 := by omega
 have e1 : (kr = kc) = False := by simp [h12]
 have e1' : (kc = kr) = False := by simp [Ne.symm h12]
 have e2 : (kr = kk) = False := by simp [h13]
 have e2' : (kk = kr) = False := by simp [Ne.symm h13]
 have e3 : (kc = kk) = False := by simp [h23]
 have e3' : (kk = kc) = False := by simp [Ne.symm h23]
 have hszq : (Zq c.q).sz = 10 := Yj c.q
 have hagq : (Zq c.q).isAgg = true := rfl
 have hmoq : (Zq c.q).memOK = true := rfl
 refine Zc func70 rfl ntmps70 (congrArg Array.toList results70) (by simp) ?_
 simp only [go_sem]
 refine Za zs [0, 2, 5] fun K Y => ?_
 simp only [go_sem, seval, hD, Zo]
 apply Y; clear Y K
 refine Ze ?_ ?_ <;> intro hb
 ·have hb4 : kOps c.kind = true := hb
  refine Zl zs [] fun K Y => ?_
  simp only [go_sem, seval]
  refine Zi (args' := [.loc kr 0 0 0 []]) func71 rfl rfl rfl (ZN hb9 hp hR) ?_ ?_
  rotate_left
  ·intro e9 H9 n9 h9
   obtain ⟨h1, rfl, h2, h3⟩ := h9.die
   refine .non (by unfold rs3; simp [hb4, h1]) (by omega) fun k hk1 hk2 hk3 hk4 => (h3 k (by omega) hk2).trans ?_
   rfl
  rintro rr H9 n9 h9
  obtain ⟨x, q1, g1, rfl, rfl, rfl⟩ := h9.get
  have hq1 := ZV g1
  simp only [go_sem, seval, bys]
  refine Zi (args' := [.loc kr 0 0 0 []]) func72 rfl rfl rfl (c_order_conds hb9' hq1.1 (by omega) (by simp [Heap.put, hR, e1, e1', e2, e2', e3, e3'])) ?_ ?_
  rotate_left
  ·intro e9 H9 n9 h9
   obtain ⟨h1, rfl, h2, h3⟩ := h9.die
   refine .non (by unfold rs3; simp [hb4, g1, h1]) (by omega) fun k hk1 hk2 hk3 hk4 => (h3 k (by omega) hk2).trans ?_
   (simp only [MF]; (repeat rw [if_neg (by omega)]))
  rintro rr H9 n9 h9
  obtain ⟨y, q2, g2, rfl, rfl, rfl⟩ := h9.get
  have hq2 := LA g2
  simp only [go_sem, seval]
  refine Zi (args' := [.loc kr 0 0 0 []]) func73 rfl rfl rfl (c_order_ops hb9' hq2.1 (by omega) (by simp [Heap.put, hR, e1, e1', e2, e2', e3, e3'])) ?_ ?_
  rotate_left
  ·intro e9 H9 n9 h9
   obtain ⟨h1, rfl, h2, h3⟩ := h9.die
   refine .non (by unfold rs3; simp [hb4, g1, g2, h1]) (by omega) fun k hk1 hk2 hk3 hk4 => (h3 k (by omega) hk2).trans ?_
   (simp only [MF]; (repeat rw [if_neg (by omega)]))
  rintro rr H9 n9 h9
  obtain ⟨z, q3, g3, rfl, rfl, rfl⟩ := h9.get
  have hq3 := rdOps_le g3
  simp only [go_sem, seval, hC, e1', Zh, AV.memOK.eq_5, bys]
  apply Y; clear Y K
  simp only [go_sem, seval]
  (refine .som (c := { c with row := x, conds := y, ops := z }) (q := q3) (by unfold rs3; simp [hb4, g1, g2, g3]) rfl hq3.1 (by simp [Heap.put, e1, e1', e2, e2', e3, e3']) (by simp [Heap.put, e1, e1', e2, e2', e3, e3', Zh, bys]) (by simp [Heap.put, e1, e1', e2, e2', e3, e3', Zo, hD]) fun k hk1 hk2 hk3 hk4 => by simp only [MF]; (repeat rw [if_neg (by omega)]))
 have hb4 : kOps c.kind = false := hb
 refine Zd ?_
 simp only [go_sem, seval]
 (exact .som (c := c) (q := p) (by unfold rs3; simp [hb4]) rfl hp hR hC hD fun k hk1 hk2 hk3 hk4 => rfl)
set_option maxRecDepth 100000 in
set_option maxHeartbeats 3200000 in
theorem JF {b : List UInt8} {p kr kc kk : Nat} {c : CmdE} (hb9 : b.length ≤ 1048576) (hp : p ≤ b.length) {H : Heap} {n : Nat} (hr : kr < n) (hc : kc < n) (hk : kk < n) (h12 : kr ≠ kc) (h13 : kr ≠ kk) (h23 : kc ≠ kk) (hR : H kr = some (rdO b p)) (hC : H kc = some (.arr 0 17 [Zh c])) (hD : H kk = some (.arr 0 5 [Zo c.kind])) : Zx prog 74 [.loc kr 0 0 0 [], .loc kk 0 0 0 [], .loc kc 0 0 0 []] H n (StK torn kr kc kk b H n (rs4 b c p)) := by
 have hb9' := hb9
 replace hb9 : b.length ≤ 1099511627776 := by omega
 have e1 : (kr = kc) = False := by simp [h12]
 have e1' : (kc = kr) = False := by simp [Ne.symm h12]
 have e2 : (kr = kk) = False := by simp [h13]
 have e2' : (kk = kr) = False := by simp [Ne.symm h13]
 have e3 : (kc = kk) = False := by simp [h23]
 have e3' : (kk = kc) = False := by simp [Ne.symm h23]
 have hszq : (Zq c.q).sz = 10 := Yj c.q
 have hagq : (Zq c.q).isAgg = true := rfl
 have hmoq : (Zq c.q).memOK = true := rfl
 refine Zc func74 rfl ntmps74 (congrArg Array.toList results74) (by simp) ?_
 simp only [go_sem]
 refine Za zs [0, 2, 6] fun K Y => ?_
 simp only [go_sem, seval, hD, Zo]
 apply Y; clear Y K
 refine Ze ?_ ?_ <;> intro hb
 ·have hb4 : 0 ≤ Yn c.kind := of_decide_eq_true hb
  refine Zl zs [] fun K Y => ?_
  simp only [go_sem, seval]
  refine Zi (args' := [.loc kr 0 0 0 []]) func69 rfl rfl rfl (ZT hb9 hp hR) ?_ ?_
  rotate_left
  ·intro e9 H9 n9 h9
   obtain ⟨h1, rfl, h2, h3⟩ := h9.die
   refine .non (by unfold rs4; simp [hb4, h1]) (by omega) fun k hk1 hk2 hk3 hk4 => (h3 k (by omega) hk2).trans ?_
   rfl
  rintro rr H9 n9 h9
  obtain ⟨x, q1, g1, rfl, rfl, rfl⟩ := h9.get
  have hq1 := YP g1
  simp only [go_sem, seval, hC, e1', Zh, AV.memOK.eq_5, bys]
  apply Y; clear Y K
  simp only [go_sem, seval]
  (refine .som (c := { c with n := x }) (q := q1) (by unfold rs4; simp [hb4, g1]) rfl hq1.1 (by simp [Heap.put, e1, e1', e2, e2', e3, e3']) (by simp [Heap.put, e1, e1', e2, e2', e3, e3', Zh, bys]) (by simp [Heap.put, e1, e1', e2, e2', e3, e3', Zo, hD]) fun k hk1 hk2 hk3 hk4 => by simp only [MF]; (repeat rw [if_neg (by omega)]))
 have hb4 : ¬ 0 ≤ Yn c.kind := of_decide_eq_false hb
 refine Zd ?_
 simp only [go_sem, seval]
 (exact .som (c := c) (q := p) (by unfold rs4; simp [hb4]) rfl hp hR hC hD fun k hk1 hk2 hk3 hk4 => rfl)
set_option maxRecDepth 100000 in
set_option maxHeartbeats 3200000 in
theorem JE {b : List UInt8} {p kr kc kk : Nat} {c : CmdE} (hb9 : b.length ≤ 1048576) (hp : p ≤ b.length) {H : Heap} {n : Nat} (hr : kr < n) (hc : kc < n) (hk : kk < n) (h12 : kr ≠ kc) (h13 : kr ≠ kk) (h23 : kc ≠ kk) (hR : H kr = some (rdO b p)) (hC : H kc = some (.arr 0 17 [Zh c])) (hD : H kk = some (.arr 0 5 [Zo c.kind])) : Zx prog 75 [.loc kr 0 0 0 [], .loc kk 0 0 0 [], .loc kc 0 0 0 []] H n (StK torn kr kc kk b H n (rs5 b c p)) := by
 have hb9' := hb9
 replace hb9 : b.length ≤ 1099511627776 := by omega
 have e1 : (kr = kc) = False := by simp [h12]
 have e1' : (kc = kr) = False := by simp [Ne.symm h12]
 have e2 : (kr = kk) = False := by simp [h13]
 have e2' : (kk = kr) = False := by simp [Ne.symm h13]
 have e3 : (kc = kk) = False := by simp [h23]
 have e3' : (kk = kc) = False := by simp [Ne.symm h23]
 have hszq : (Zq c.q).sz = 10 := Yj c.q
 have hagq : (Zq c.q).isAgg = true := rfl
 have hmoq : (Zq c.q).memOK = true := rfl
 refine Zc func75 rfl ntmps75 (congrArg Array.toList results75) (by simp) ?_
 simp only [go_sem]
 refine Za zs [0, 2, 5] fun K Y => ?_
 simp only [go_sem, seval, hD, Zo]
 apply Y; clear Y K
 refine Ze ?_ ?_ <;> intro hb
 ·have hb4 : Yd c.kind = true := hb
  refine Zl zs [] fun K Y => ?_
  simp only [go_sem, seval]
  refine Zi (args' := [.loc kr 0 0 0 []]) func76 rfl rfl rfl (Ke hb9' hp (by omega) hR) ?_ ?_
  rotate_left
  ·intro e9 H9 n9 h9
   obtain ⟨h1, rfl, h2, h3⟩ := h9.die
   refine .non (by unfold rs5; simp [hb4, h1]) (by omega) fun k hk1 hk2 hk3 hk4 => (h3 k (by omega) hk2).trans ?_
   rfl
  rintro rr H9 n9 h9
  obtain ⟨x, q1, g1, rfl, rfl, rfl⟩ := h9.get
  have hq1 := rdQry_le g1
  simp only [go_sem, seval, hC, e1', Zh, hszq, bys]
  repeat (first | refine peel ?_ | refine ⟨by exact ⟨(Yj _).symm, by rw [Yj], rfl⟩, ?_⟩)
  apply Y; clear Y K
  simp only [go_sem, seval]
  (refine .som (c := { c with q := x }) (q := q1) (by unfold rs5; simp [hb4, g1]) rfl hq1.1 (by simp [Heap.put, e1, e1', e2, e2', e3, e3']) (by simp [Heap.put, e1, e1', e2, e2', e3, e3', Zh, bys]) (by simp [Heap.put, e1, e1', e2, e2', e3, e3', Zo, hD]) fun k hk1 hk2 hk3 hk4 => by simp only [MF]; (repeat rw [if_neg (by omega)]))
 have hb4 : Yd c.kind = false := hb
 refine Zd ?_
 simp only [go_sem, seval]
 (exact .som (c := c) (q := p) (by unfold rs5; simp [hb4]) rfl hp hR hC hD fun k hk1 hk2 hk3 hk4 => rfl)
end Go.Proofs.YtifnhpmeoogedaaGreatDoor