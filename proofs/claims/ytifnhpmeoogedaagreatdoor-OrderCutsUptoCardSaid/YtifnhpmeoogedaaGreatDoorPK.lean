/- Own layer: what Decode answers to a command's bytes, to their beginnings, to what has something behind. Plain; no program; no condition. -/
import Derived.Test.YtifnhpmeoogedaaGreatDoorPJ
import Derived.Test.YtifnhpmeoogedaaGreatDoorPG
import GoSem.Extern.BytealgIndexByte
import Derived.Test.YtifnhpmeoogedaaGreatDoorPH
import Derived.Test.YtifnhpmeoogedaaGreatDoorPE
import Derived.Test.YtifnhpmeoogedaaGreatDoorPF
set_option linter.unusedSimpArgs false
set_option linter.unusedVariables false
namespace Go.Rt
open Go Go.Sx
def OpE.fine (o : OpE) : Prop := -9223372036854775808 ≤ o.delta ∧ o.delta < 9223372036854775808
theorem rdOp_fine {b : List UInt8} {p q : Nat} {x : OpE} (h : rdOp b p = some (x, q)) : x.fine := by
 simp only [rdOp, Option.bind_eq_some_iff] at h
 obtain ⟨⟨k, p1⟩, h1, ⟨f, p2⟩, h2, ⟨qq, p3⟩, h3, ⟨t, p4⟩, h4, ⟨v, p5⟩, h5, ⟨d, p6⟩, h6, h7⟩ := h
 simp only [Option.some.injEq, Prod.mk.injEq] at h7
 obtain ⟨rfl, rfl⟩ := h7
 unfold Vm at h6
 split at h6
 ·cases h6
 ·simp only [Option.some.injEq, Prod.mk.injEq] at h6
  obtain ⟨rfl, _⟩ := h6
  show -9223372036854775808 ≤ IntKind.i64.wrap _ ∧ IntKind.i64.wrap _ < 9223372036854775808
  rw [IntKind.wrap_i64]
  omega
theorem rdCmd_fine {b : List UInt8} {c : CmdE} (h : Wv b = some c) : ∀ o ∈ c.ops, o.fine := by
 simp only [Wv, Option.bind_eq_some_iff] at h
 obtain ⟨⟨c1, p1⟩, h1, ⟨c2, p2⟩, h2, ⟨c3, p3⟩, h3, ⟨c4, p4⟩, h4, ⟨c5, p5⟩, h5, h6⟩ := h
 split at h6
 ·cases h6
  have o1 : c1.ops = [] := by
    simp only [rs1, Option.bind_eq_some_iff] at h1
    obtain ⟨x, _, h⟩ := h1
    split at h
    ·cases h
    ·simp only [Option.some.injEq, Prod.mk.injEq] at h
     obtain ⟨rfl, _⟩ := h; rfl
  have o2 : c2.ops = c1.ops := by
    simp only [rs2] at h2
    split at h2
    ·simp only [Option.bind_eq_some_iff] at h2
     obtain ⟨x, _, y, _, h⟩ := h2
     simp only [Option.some.injEq, Prod.mk.injEq] at h
     obtain ⟨rfl, _⟩ := h; rfl
    ·simp only [Option.some.injEq, Prod.mk.injEq] at h2
     obtain ⟨rfl, _⟩ := h2; rfl
  have o3 : ∀ o ∈ c3.ops, o.fine := by
    simp only [rs3] at h3
    split at h3
    ·simp only [Option.bind_eq_some_iff] at h3
     obtain ⟨x, _, y, _, z, hz, h⟩ := h3
     simp only [Option.some.injEq, Prod.mk.injEq] at h
     obtain ⟨rfl, _⟩ := h
     exact Ut (A := OpE.fine) (fun h => rdOp_fine h) (l := z.1) (q := z.2) hz
    ·simp only [Option.some.injEq, Prod.mk.injEq] at h3
     obtain ⟨rfl, _⟩ := h3
     rw [o2, o1]; simp
  have o4 : c4.ops = c3.ops := by
    simp only [rs4] at h4
    split at h4
    ·simp only [Option.bind_eq_some_iff] at h4
     obtain ⟨x, _, h⟩ := h4
     simp only [Option.some.injEq, Prod.mk.injEq] at h
     obtain ⟨rfl, _⟩ := h; rfl
    ·simp only [Option.some.injEq, Prod.mk.injEq] at h4
     obtain ⟨rfl, _⟩ := h4; rfl
  have o5 : c5.ops = c4.ops := by
    simp only [rs5] at h5
    split at h5
    ·simp only [Option.bind_eq_some_iff] at h5
     obtain ⟨x, _, h⟩ := h5
     simp only [Option.some.injEq, Prod.mk.injEq] at h
     obtain ⟨rfl, _⟩ := h; rfl
    ·simp only [Option.some.injEq, Prod.mk.injEq] at h5
     obtain ⟨rfl, _⟩ := h5; rfl
  show ∀ o ∈ c5.ops, o.fine
  rw [o5, o4]; exact o3
 ·cases h6
section
variable {qc : QryE → Int} {s : List Fml}
theorem decC_zero {b : List UInt8} (hqn : ∀ q, qc q = 0 → q.nums) (h : (decC qc s b).2 = 0) : Vq (qc (decC qc s b).1.q) s (decC qc s b).1 ∧ cmdB (decC qc s b).1 = b := by
 unfold decC at h ⊢
 split at h
 ·cases h
 rename_i h1
 rw [if_neg h1]
 split at h
 ·cases h
 rename_i h2
 rw [if_neg h2]
 split at h
 ·rename_i c hc
  split at h
  ·rename_i h3
   rw [if_pos h3]
   exact ⟨⟨h3.1, (Xi (by omega) hc).1, rdCmd_fine hc, fun _ => hqn _⟩, h3.2⟩
  ·cases h
 ·cases h
theorem decC_cut (hqn : ∀ q, qc q = 0 → q.nums) {c : CmdE} (h : Vq (qc c.q) s c) {cut : Nat} (hc : cut < (cmdB c).length) : (decC qc s ((cmdB c).take cut)).2 = 140 := by
 have hp := Uz h.ok
 have hl := hp.2.2.2.2.2.2.2.2.2.2.2
 have hne : (decC qc s ((cmdB c).take cut)).2 ≠ 0 := fun h0 => by
   obtain ⟨h1, h2⟩ := decC_zero hqn h0
   have e : cmdB c = cmdB (decC qc s ((cmdB c).take cut)).1 ++ (cmdB c).drop cut := by rw [h2, List.take_append_drop]
   have e2 := h.pre h1 e
   rw [← e2] at h2
   have e3 := congrArg List.length h2
   rw [List.length_take] at e3
   omega
 unfold decC at hne ⊢
 rw [if_neg (by rw [hp.1]; simp), if_neg (by rw [List.length_take]; omega)] at hne ⊢
 split at hne
 ·split at hne
  ·exact absurd rfl hne
  ·rename_i h3; rw [if_neg h3]
 ·rfl
theorem decC_long (hqn : ∀ q, qc q = 0 → q.nums) {c : CmdE} (h : Vq (qc c.q) s c) {v : List UInt8} (hv : v ≠ []) : (decC qc s (cmdB c ++ v)).2 ≠ 0 := fun h0 => by
 obtain ⟨h1, h2⟩ := decC_zero hqn h0
 have e2 := h1.pre h h2
 rw [e2] at h2
 exact hv (List.append_right_eq_self.1 h2.symm)
end
theorem rdRep_back {b : List UInt8} {r : RepE} (hb : b.length ≤ 1048576) (h : UI b = some r) (hs : YU r = true) : WW r := by
 obtain ⟨h1, h2, h3⟩ := rdRep_le h
 refine ⟨hs, ?_, fun x hx => by have := h2 x hx; omega, by omega⟩
 simp only [UI, rp1, rp2, rp3, Option.bind_eq_some_iff] at h
 obtain ⟨c1, ⟨e, _, hh, _, v, hv, g1⟩, c2, ⟨l, _, g2⟩, c3, ⟨t, _, d, _, g3⟩, g4⟩ := h
 have hv2 : v.1 < 9223372036854775808 := by
   unfold YC at hv
   split at hv
   ·cases hv
   ·split at hv
    ·cases hv
    ·cases hv; simp only; omega
 split at g4
 ·cases g4; cases g3; cases g2; cases g1
  exact hv2
 ·cases g4
theorem decR_zero {b : List UInt8} (h : (decR b).2 = 0) : WW (decR b).1 ∧ repB (decR b).1 = b := by
 unfold decR at h ⊢
 split at h
 ·cases h
 rename_i h2
 rw [if_neg h2]
 split at h
 ·rename_i r hr
  split at h
  ·rename_i h3
   rw [if_pos h3]
   exact ⟨rdRep_back (by omega) hr h3.1, h3.2⟩
  ·cases h
 ·cases h
theorem decR_cut {r : RepE} (h : WW r) (hl : (repB r).length ≤ 1048576) {cut : Nat} (hc : cut < (repB r).length) : (decR ((repB r).take cut)).2 = 147 := by
 have hne : (decR ((repB r).take cut)).2 ≠ 0 := fun h0 => by
   obtain ⟨h1, h2⟩ := decR_zero h0
   have e : repB r = repB (decR ((repB r).take cut)).1 ++ (repB r).drop cut := by rw [h2, List.take_append_drop]
   have e2 := h.pre h1 e
   rw [← e2] at h2
   have e3 := congrArg List.length h2
   rw [List.length_take] at e3
   omega
 unfold decR at hne ⊢
 rw [if_neg (by rw [List.length_take]; omega)] at hne ⊢
 split at hne
 ·split at hne
  ·exact absurd rfl hne
  ·rename_i h3; rw [if_neg h3]
 ·rfl
theorem decR_long {r : RepE} (h : WW r) {v : List UInt8} (hv : v ≠ []) : (decR (repB r ++ v)).2 ≠ 0 := fun h0 => by
 obtain ⟨h1, h2⟩ := decR_zero h0
 have e2 := h1.pre h h2
 rw [e2] at h2
 exact hv (List.append_right_eq_self.1 h2.symm)
structure Wd where
 kind : Nat
 pos : Nat
 text : List UInt8
 num : Nat
 str : List UInt8
structure Qst where
 far : Nat
 nxt : Wd
 out : List Wd
 deep : Nat
def Le (c : UInt8) : Bool := 97 ≤ c.toNat && c.toNat ≤ 122
def Yt (c : UInt8) : Bool := 48 ≤ c.toNat && c.toNat ≤ 57
def Vi (c : UInt8) : Bool := Le c || Yt c || c.toNat == 95
def hexV (c : UInt8) : Option Nat := if Yt c then some (c.toNat - 48) else if 97 ≤ c.toNat ∧ c.toNat ≤ 102 then some (c.toNat - 87) else none
def hexC (n : Nat) : UInt8 := UInt8.ofNat (if n < 10 then 48 + n else 87 + n)
def Yl (so : UInt8 → Bool) (t : List UInt8) (p : Nat) : Nat := p + ((t.drop p).takeWhile so).length
def Xz (c : UInt8) : List UInt8 :=
 if c.toNat = 34 ∨ c.toNat = 92 then [92, c]
 else if c.toNat < 32 ∨ 126 < c.toNat then [92, hexC (c.toNat / 16), hexC (c.toNat % 16)]
 else [c]
def strG : Nat → List UInt8 → Nat → List UInt8 → List UInt8 → Option (List UInt8 × List UInt8 × Nat)
 | 0, _, _, _, _ => none
 | f + 1, l, i, s, x =>
   match l with
   | [] => none
   | c :: l =>
     if c.toNat = 34 then some (s, x ++ [34], i + 1)
     else if c.toNat < 32 ∨ 126 < c.toNat then none
     else if c.toNat = 92 then
       match l with
       | [] => none
       | d :: l =>
         if d.toNat = 34 ∨ d.toNat = 92 then strG f l (i + 2) (s ++ [d]) (x ++ Xz d)
         else match l with
         | [] => none
         | e :: l =>
           match hexV d, hexV e with
           | some a, some b => strG f l (i + 3) (s ++ [UInt8.ofNat (16 * a + b)]) (x ++ Xz (UInt8.ofNat (16 * a + b)))
           | _, _ => none
     else strG f l (i + 1) (s ++ [c]) (x ++ Xz c)
def strF (t : List UInt8) (p : Nat) : Option (Wd × Nat) :=
 (strG (t.length + 1) (t.drop (p + 1)) (p + 1) [] [34]).map fun x => (⟨3, p, x.2.1, 0, x.1⟩, x.2.2)
def numV (l : List UInt8) : Nat := (l.take 14).foldl (fun n c => 10 * n + (c.toNat - 48)) 0
def numF (t : List UInt8) (p : Nat) : Option (Wd × Nat) :=
 let d := (t.drop p).takeWhile Yt
 if 1099511627776 < numV d ∨ (1 < d.length ∧ d.getD 0 0 = 48) then none else some (⟨2, p, d, numV d, []⟩, Yl Yt t p)
def Wm : List (List UInt8) := [[33, 61], [60, 61], [62, 61], [61], [60], [62], [94], [40], [41]]
def Kk (t : List UInt8) (p : Nat) : Except Nat (Wd × Nat) :=
 let q := Yl (fun c => c.toNat == 32) t p
 match t.drop q with
 | [] => .ok (⟨0, q, [], 0, []⟩, q)
 | c :: l =>
   if Le c then .ok (⟨1, q, (t.drop q).takeWhile Vi, 0, []⟩, Yl Vi t q)
   else if Yt c then (match numF t q with | some x => .ok x | none => .error q)
   else if c.toNat = 34 then (match strF t q with | some x => .ok x | none => .error q)
   else match Wm.find? (fun s => s.isPrefixOf (c :: l)) with
     | some s => .ok (⟨4, q, s, 0, []⟩, q + s.length)
     | none => .error q
def Jc (t : List UInt8) (s : Qst) : Except Nat Qst := (Kk t s.far).map fun x => { s with far := x.2, nxt := x.1 }
def Vw (t : List UInt8) (s : Qst) : Except Nat (Wd × Qst) := (Jc t { s with out := s.out ++ [s.nxt] }).map fun x => (s.nxt, x)
def isF (s : Qst) (w : List UInt8) : Bool := (s.nxt.kind == 1 || s.nxt.kind == 4) && s.nxt.text == w
def La (t : List UInt8) (k : Nat) (s : Qst) : Except Nat (Wd × Qst) := if s.nxt.kind = k then Vw t s else .error s.nxt.pos
def Km (t : List UInt8) (ws : List (List UInt8)) (s : Qst) : Except Nat (List UInt8 × Qst) :=
 if s.nxt.kind = 4 ∧ s.nxt.text ∈ ws then (Vw t s).map fun x => (x.1.text, x.2) else .error s.nxt.pos
def LH (t : List UInt8) (s : Qst) : Except Nat Qst :=
 if 16 < s.deep + 1 then .error s.nxt.pos else (Vw t { s with deep := s.deep + 1 }).map (·.2)
inductive Tst where
 | or (a b : Tst)
 | and (a b : Tst)
 | not (a : Tst)
 | fam (n : Int) (sign : List UInt8)
 | cmp (qual : Bool) (sign s : List UInt8)
 | ts (sign : List UInt8) (n : Nat)
def famF (s : List Fml) (w : List UInt8) : Int := VH s w 0
def wFam : List UInt8 := [102, 97, 109]
def Q9 : List UInt8 := [113, 117, 97, 108]
def QP : List UInt8 := [118, 97, 108, 117, 101]
def wTs : List UInt8 := [116, 115]
def wOr : List UInt8 := [111, 114]
def wAnd : List UInt8 := [97, 110, 100]
def wNot : List UInt8 := [110, 111, 116]
def sEq : List (List UInt8) := [[61], [33, 61]]
def sCmp : List (List UInt8) := sEq ++ [[60], [60, 61], [62], [62, 61]]
def sAll : List (List UInt8) := sCmp ++ [[94]]
def testF (fs : List Fml) (t : List UInt8) (s : Qst) : Except Nat (Tst × Qst) :=
 if isF s wFam then (Vw t s).bind fun x => (Km t sEq x.2).bind fun y =>
   if y.2.nxt.kind ≠ 1 ∨ famF fs y.2.nxt.text < 0 then .error y.2.nxt.pos
   else (Vw t y.2).map fun z => (.fam (famF fs y.2.nxt.text) y.1, z.2)
 else if isF s Q9 ∨ isF s QP then (Vw t s).bind fun x => (Km t sAll x.2).bind fun y => (La t 3 y.2).map fun z => (.cmp (x.1.text == Q9) y.1 z.1.str, z.2)
 else if isF s wTs then (Vw t s).bind fun x => (Km t sCmp x.2).bind fun y => (La t 2 y.2).map fun z => (.ts y.1 z.1.num, z.2)
 else .error s.nxt.pos
mutual
def Kw (fs : List Fml) (t : List UInt8) : Nat → Qst → Except Nat (Tst × Qst)
 | 0, s => .error s.nxt.pos
 | f + 1, s => (Kl fs t f s).bind fun x => orsF fs t f x.1 x.2
def orsF (fs : List Fml) (t : List UInt8) : Nat → Tst → Qst → Except Nat (Tst × Qst)
 | 0, _, s => .error s.nxt.pos
 | f + 1, a, s => if isF s wOr then (Vw t s).bind fun x => (Kl fs t f x.2).bind fun y => orsF fs t f (.or a y.1) y.2 else .ok (a, s)
def Kl (fs : List Fml) (t : List UInt8) : Nat → Qst → Except Nat (Tst × Qst)
 | 0, s => .error s.nxt.pos
 | f + 1, s => (Jt fs t f s).bind fun x => Mv fs t f x.1 x.2
def Mv (fs : List Fml) (t : List UInt8) : Nat → Tst → Qst → Except Nat (Tst × Qst)
 | 0, _, s => .error s.nxt.pos
 | f + 1, a, s => if isF s wAnd then (Vw t s).bind fun x => (Jt fs t f x.2).bind fun y => Mv fs t f (.and a y.1) y.2 else .ok (a, s)
def Jt (fs : List Fml) (t : List UInt8) : Nat → Qst → Except Nat (Tst × Qst)
 | 0, s => .error s.nxt.pos
 | f + 1, s =>
   if isF s wNot then (LH t s).bind fun x => (Jt fs t f x).map fun y => (.not y.1, { y.2 with deep := y.2.deep - 1 })
   else if isF s [40] then (LH t s).bind fun x => (Kw fs t f x).bind fun y =>
     if isF y.2 [41] then (Vw t { y.2 with deep := y.2.deep - 1 }).map fun z => (y.1, z.2) else .error y.2.nxt.pos
   else testF fs t s
end
def Wy : Option Wd → List Wd → List UInt8
 | _, [] => []
 | none, w :: l => w.text ++ Wy (some w) l
 | some v, w :: l => (if w.text ≠ [41] ∧ v.text ≠ [40] then [32] else []) ++ w.text ++ Wy (some w) l
def LG (fs : List Fml) (t : List UInt8) : Except Nat (Tst × List UInt8) :=
 if 512 < t.length then .error 512
 else (Jc t ⟨0, ⟨0, 0, [], 0, []⟩, [], 0⟩).bind fun s => (Kw fs t (8 * t.length + 16) s).bind fun x =>
   if x.2.nxt.kind ≠ 0 then .error x.2.nxt.pos else .ok (x.1, Wy none x.2.out)
def idxB (s : List UInt8) (b : UInt8) : Int := match (List.range s.length).find? fun i => s.getD i 0 == b with | some i => i | none => -1
theorem ext_indexByte {P : Program} {f : FuncId} {fn : Func} {H : Heap} {n : Nat} {k : AV → Heap → Nat → Prop} (hf : P.funcs[f]? = some fn) (hb : fn.body = none) (hn : (fn.name == "runtime.NumGoroutine") = false)
   (h1 : (Extern.findNext fn).isNone = true) (h2 : Extern.find fn = some Extern.BytealgIndexByte.indexByte) (s : List UInt8) (b : UInt8) (hk : k (.int .i64 (idxB s b)) H n) : ExtC P f [.str s, Zn b] H n k := fun c w vs hs hr => by
 simp only [RelT] at hr
 obtain ⟨v1, _, rfl, hr1, v2, _, rfl, hr2, rfl⟩ := hr
 have h1' : Extern.findNext fn = none := by simpa using h1
 simp only [Rel, Zn, List.cons.injEq, and_true] at hr1 hr2
 subst hr1 hr2
 refine ⟨_, .int .i64 (idxB s b), c, H, n, w, ?_, .refl hs, by simp [Rel], hk⟩
 have e : ∀ i : Nat, (ByteArray.mk s.toArray)[i]! = s.getD i 0 := fun i => by
   by_cases h : i < s.length
   ·rw [getElem!_pos _ _ (by show i < s.toArray.size; simpa using h)]
    simp [List.getD, List.getElem?_eq_getElem h]
    rfl
   ·rw [getElem!_neg _ _ (by show ¬ i < s.toArray.size; simpa using h)]
    simp [List.getD, List.getElem?_eq_none (Nat.le_of_not_lt h)]
    rfl
 have hc : (Extern.BytealgIndexByte.indexByte #[.string ⟨s.toArray⟩, .int .u8 b.toNat]).run P w = .ok (.int .i64 (idxB s b)) w := by
   change Sem.run P (do
     let b' ← Extern.Bytes.bytesOf (.string ⟨s.toArray⟩)
     let c' ← Extern.Bytes.asByte (.int .u8 b.toNat)
     match (List.range b'.size).find? fun i => b'[i]! == c' with
     | some i => pure (goInt i)
     | none => pure (goInt (-1))) w = _
   simp only [Extern.Bytes.bytesOf, Extern.Bytes.asByte, pure_bind]
   have e2 : ((b.toNat : Int).toNat).toUInt8 = b := by simp
   rw [e2]
   have e3 : (ByteArray.mk s.toArray).size = s.length := by simp [ByteArray.size]
   rw [e3]
   simp only [e]
   unfold idxB
   split <;> simp_all <;> rfl
 have hn' : ¬ fn.name = "runtime.NumGoroutine" := by simpa using hn
 simp [callFunc, hf, hn', hb, h1', h2, hc]
def hexS : List UInt8 := [48, 49, 50, 51, 52, 53, 54, 55, 56, 57, 97, 98, 99, 100, 101, 102]
def hexI (c : UInt8) : Int := match hexV c with | some x => x | none => -1
theorem idxB_hex (c : UInt8) : idxB hexS c = hexI c := by
 have h : ∀ i : Fin 256, idxB hexS (UInt8.ofNat i.val) = hexI (UInt8.ofNat i.val) := by decide +kernel
 have := h ⟨c.toNat, c.toNat_lt⟩
 simpa using this
end Go.Rt
namespace Go.Proofs.YtifnhpmeoogedaaGreatDoor
open Go Go.Sx Go.Rt Go.Proofs Tryz
theorem QH (b : UInt8) (H : Heap) (n : Nat) : Ret prog 179 [Zn b] H n (.bool (Le b)) H n := by
 refine Zc func179 rfl ntmps179 (congrArg Array.toList results179) (by simp) ?_
 simp only [go_sem]
 refine ZE zs [0] ?_
 refine ZE zs [2] ?_
 refine Zf ?_
 simp only [go_sem, seval]
 unfold Le; have i1 : ((97 : Int) ≤ (b.toNat : Int)) = (97 ≤ b.toNat) := propext (by omega)
 have i2 : ((b.toNat : Int) ≤ 122) = (b.toNat ≤ 122) := propext (by omega)
 by_cases h : 97 ≤ b.toNat <;> simp [h, i1, i2]
theorem V9 (b : UInt8) (H : Heap) (n : Nat) : Ret prog 181 [Zn b] H n (.bool (Yt b)) H n := by
 refine Zc func181 rfl ntmps181 (congrArg Array.toList results181) (by simp) ?_
 simp only [go_sem]
 refine ZE zs [0] ?_
 refine ZE zs [2] ?_
 refine Zf ?_
 simp only [go_sem, seval]
 unfold Yt; have i1 : ((48 : Int) ≤ (b.toNat : Int)) = (48 ≤ b.toNat) := propext (by omega)
 have i2 : ((b.toNat : Int) ≤ 57) = (b.toNat ≤ 57) := propext (by omega)
 by_cases h : 48 ≤ b.toNat <;> simp [h, i1, i2]
theorem c_query_blank (b : UInt8) (H : Heap) (n : Nat) : Ret prog 178 [Zn b] H n (.bool (b.toNat == 32)) H n := by
 refine Zc func178 rfl ntmps178 (congrArg Array.toList results178) (by simp) ?_
 simp only [go_sem]
 refine ZE zs [0] ?_
 refine ZE zs [2] ?_
 refine Zf ?_
 simp only [go_sem, seval]
 simp
 rw [Bool.eq_iff_iff, beq_iff_eq, beq_iff_eq]; omega
theorem c_query_name (b : UInt8) (H : Heap) (n : Nat) : Ret prog 180 [Zn b] H n (.bool (Vi b)) H n := by
 refine Zc func180 rfl ntmps180 (congrArg Array.toList results180) (by simp) ?_
 simp only [go_sem]
 refine ZE zs [0] ?_
 refine Za zs [2] fun K Y => ?_
 simp only [go_sem, seval]
 refine Zg func179 rfl rfl rfl ((QH b _ _)) ?_
 simp only [go_sem, seval]
 refine Zv func181 rfl rfl rfl (fun _ => (V9 b _ _)) ?_
 simp only [go_sem, seval]
 repeat refine peel ?_
 apply Y; clear Y K
 refine Zf ?_
 simp only [go_sem, seval]
 unfold Vi; have i : ((b.toNat : Int) == 95) = (b.toNat == 95) := by rw [Bool.eq_iff_iff, beq_iff_eq, beq_iff_eq]; omega
 simp_all
theorem Mh (s : List UInt8) (b : UInt8) (H : Heap) (n : Nat) : Ret prog 209 [.str s, Zn b] H n (.int .i64 (idxB s b)) H n := by
 refine Zc func209 rfl ntmps209 (congrArg Array.toList results209) (by simp) ?_
 simp only [go_sem]
 refine ZE zs [0, 1] ?_
 refine Za zs [4] fun K Y => ?_
 simp only [go_sem, seval]
 refine .inr (ext_indexByte func218 rfl rfl (by decide) rfl s b ?_)
 simp only [go_sem, seval]
 apply Y; clear Y K
 refine Zf ?_
 simp only [go_sem, seval]
theorem Qz (s : List UInt8) (b : UInt8) (H : Heap) (n : Nat) : Ret prog 202 [.str s, Zn b] H n (.int .i64 (idxB s b)) H n := by
 refine Zc func202 rfl ntmps202 (congrArg Array.toList results202) (by simp) ?_
 simp only [go_sem]
 refine ZE zs [0, 1] ?_
 refine Za zs [4] fun K Y => ?_
 simp only [go_sem, seval]
 refine Zg func209 rfl rfl rfl ((Mh s b _ _)) ?_
 simp only [go_sem, seval]
 apply Y; clear Y K
 refine Zf ?_
 simp only [go_sem, seval]
theorem VW (b : UInt8) (H : Heap) (n : Nat) : Ret prog 196 [Zn b] H n (.int .i64 (hexI b)) H n := by
 refine Zc func196 rfl ntmps196 (congrArg Array.toList results196) (by simp) ?_
 simp only [go_sem]
 refine ZE zs [0] ?_
 refine Za zs [2] fun K Y => ?_
 simp only [go_sem, seval]
 refine Zg func202 rfl rfl rfl ((Qz hexS b _ _)) ?_
 simp only [go_sem, seval]
 apply Y; clear Y K
 refine Zf ?_
 simp only [go_sem, seval]
 rw [idxB_hex]
def Uq (p : Nat) : AV := .iface 208 (.agg [.int .i64 p])
theorem Yq (p : Nat) (H : Heap) (n : Nat) : Zx prog 163 [.int .i64 p] H n fun res H' n' => H' = H ∧ n' = n ∧ res = .pan (Uq p) := by
 refine Zc func163 rfl ntmps163 (congrArg Array.toList results163) (by simp) ?_
 simp only [go_sem]
 refine VM zs 3 rfl trivial ?_
 simp only [go_sem, seval]
 repeat refine peel ?_
 rfl
def wdAV (w : Wd) : AV := .agg [.int .i64 w.kind, .int .i64 w.pos, .str w.text, .int .i64 w.num, bys w.str]
def qdO (fs : List Fml) (t : List UInt8) (s : Qst) (ko ver : Nat) : AObj := .arr 0 10 [.agg [Zt fs, .str t, .int .i64 s.far, wdAV s.nxt, .osl ko ver 0 s.out.length, .int .i64 s.deep]]
theorem whileF_on {so : UInt8 → Bool} {t : List UInt8} {i : Nat} (h : i < t.length) (hb : so (t.getD i 0) = true) : Yl so t (i + 1) = Yl so t i := by
 unfold Yl
 rw [List.drop_eq_getElem_cons h, List.takeWhile_cons]
 have e : t.getD i 0 = t[i] := by simp [List.getD, h]
 rw [e] at hb
 rw [if_pos hb, List.length_cons]; omega
theorem whileF_off {so : UInt8 → Bool} {t : List UInt8} {i : Nat} (h : i < t.length) (hb : so (t.getD i 0) = false) : Yl so t i = i := by
 unfold Yl
 rw [List.drop_eq_getElem_cons h, List.takeWhile_cons]
 have e : t.getD i 0 = t[i] := by simp [List.getD, h]
 rw [e] at hb
 rw [if_neg (by rw [hb]; simp)]; rfl
theorem whileF_end {so : UInt8 → Bool} {t : List UInt8} {i : Nat} (h : t.length ≤ i) : Yl so t i = i := by
 unfold Yl
 rw [List.drop_eq_nil_of_le h]; rfl
theorem V8 (fs : List Fml) (t : List UInt8) (s : Qst) (kr ko ver : Nat) (ht : t.length ≤ 512) (p : Nat) (hp : p ≤ t.length) (so : UInt8 → Bool) (f : FuncId) {fn : Func} (hf : (prog).funcs[f]? = some fn) (hbd : fn.body.isSome = true) (hn : (fn.name == "runtime.NumGoroutine") = false)
   (H : Heap) (n : Nat) (hso : ∀ b H n, Ret prog f [Zn b] H n (.bool (so b)) H n) (hR : H kr = some (qdO fs t s ko ver)) :
   Ret prog 177 [.loc kr 0 0 0 [], .int .i64 p, .fn (.func f) [] []] H n (.int .i64 (Yl so t p)) H n := by
 have hR1 := hR
 unfold qdO at hR1
 have w1 : ∀ {i : Nat}, i < t.length → IntKind.i64.wrap ((i : Int) + 1) = ((i + 1 : Nat) : Int) := fun h => by rw [w64 (by omega) (by omega)]; omega
 have hszs : (Zt fs).sz = 1 := rfl
 have hszb : ∀ b, (bys b).sz = 1 := fun _ => rfl
 refine Zc func177 rfl ntmps177 (congrArg Array.toList results177) (by simp) ?_
 simp only [go_sem]
 refine Za zs [0, 1, 2] fun K Y => ?_
 simp only [go_sem, seval]
 apply Y; clear Y K
 refine Zb fun K1 hK1 => ?_
 refine Zj ?_
 refine Zz (fun T' H' n' => ∃ i : Nat, i ≤ t.length ∧ T' = tl [(0, .loc kr 0 0 0 []), (1, .int .i64 i), (2, .fn (.func f) [] [])] ∧ H' = H ∧ n' = n ∧ Yl so t i = Yl so t p) (fun T' _ _ => t.length - iv (T' 1)) ?_ ?_
 ·exact ⟨p, hp, rfl, rfl, rfl, rfl⟩
 intro T1 H1 n1
 rintro ⟨i, hi, rfl, rfl, rfl, hix⟩
 refine Zb fun K2 hK2 => ?_
 refine Za zs [0, 1, 2, 23] fun K Y => ?_
 simp only [go_sem, seval, hR1, wdAV]
 repeat refine peel ?_
 refine Zv (args' := [Zn (t.getD i 0)]) hf hbd hn rfl (fun _ => hso (t.getD i 0) _ _) ?_
 simp only [go_sem, seval]
 repeat refine peel ?_
 apply Y; clear Y K
 refine Ze ?_ ?_ <;> intro hb
 ·have hb1 : (bif decide ((i : Int) < (t.length : Int)) then so (t.getD i 0) else false) = true := hb
  have hlt : i < t.length := by rcases Nat.lt_or_ge i t.length with h | h; exact h; rw [decide_eq_false (by omega)] at hb1; cases hb1
  have hso1 : so (t.getD i 0) = true := by rw [decide_eq_true (by omega)] at hb1; exact hb1
  have hnext : Yl so t (i + 1) = Yl so t p := by rw [whileF_on hlt hso1, hix]
  refine Zd ?_
  simp only [go_sem, seval]
  apply hK2
  clear hK2 K2
  refine Zj ?_
  refine Zl zs [0, 1, 2] fun K Y => ?_
  simp only [go_sem, seval]
  apply Y; clear Y K
  simp only [go_sem, seval]
  exact ⟨⟨i + 1, by omega, by rw [w1 (by omega)], hnext⟩, by rw [w1 (by omega)]; simp; omega⟩
 have hb1 : (bif decide ((i : Int) < (t.length : Int)) then so (t.getD i 0) else false) = false := hb
 have hres : (i : Int) = ((Yl so t p : Nat) : Int) := by rw [← hix]; rcases Nat.lt_or_ge i t.length with h | h; (rw [decide_eq_true (by omega)] at hb1; rw [whileF_off h hb1]); rw [whileF_end h]
 refine ZA ?_
 simp only [go_sem, seval]
 apply hK1
 refine Za zs [6] fun K Y => ?_
 simp only [go_sem, seval]
 apply Y; clear Y K
 refine Zf ?_
 simp only [go_sem, seval]
 rw [hres]
end Go.Proofs.YtifnhpmeoogedaaGreatDoor
namespace Go.Rt
open Go Go.Sx
theorem Vr (so : UInt8 → Bool) (t : List UInt8) (p : Nat) (hp : p ≤ t.length) : p ≤ Yl so t p ∧ Yl so t p ≤ t.length := by
 unfold Yl
 have h : ((t.drop p).takeWhile so).length ≤ (t.drop p).length := (List.takeWhile_sublist _).length_le
 rw [List.length_drop] at h
 omega
theorem KZ (so : UInt8 → Bool) (t : List UInt8) (p : Nat) : (t.take (Yl so t p)).drop p = (t.drop p).takeWhile so := by
 unfold Yl
 rw [List.drop_take, Nat.add_sub_cancel_left]
 exact (List.prefix_iff_eq_take.1 (List.takeWhile_prefix so)).symm
theorem KY {so : UInt8 → Bool} {t : List UInt8} {p : Nat} {c : UInt8} {l : List UInt8} (h : t.drop p = c :: l) (hc : so c = true) : p < Yl so t p := by
 unfold Yl
 rw [h, List.takeWhile_cons, if_pos hc, List.length_cons]
 omega
theorem JP (so : UInt8 → Bool) (l : List UInt8) : (l.takeWhile so).length ≤ l.length := (List.takeWhile_sublist _).length_le
theorem WH (c : UInt8) : (Xz c).length ≤ 3 := by
 unfold Xz; split
 ·simp
 ·split <;> simp
theorem Jb : ∀ (f : Nat) (l : List UInt8) (i : Nat) (s x : List UInt8) (r : List UInt8 × List UInt8 × Nat), strG f l i s x = some r → i < r.2.2 ∧ r.2.2 ≤ i + l.length ∧ r.2.1.length ≤ x.length + 3 * l.length + 1
 | 0, _, _, _, _, _, h => by simp [strG] at h
 | f + 1, l, i, s, x, r, h => by
   unfold strG at h
   split at h
   ·cases h
   ·rename_i c l
    split at h
    ·cases h; simp
    split at h
    ·cases h
    split at h
    ·split at h
     ·cases h
     ·rename_i d l
      split at h
      ·have := Jb f _ _ _ _ _ h
       have := WH d
       simp only [List.length_append, List.length_cons] at *
       omega
      ·split at h
       ·cases h
       ·rename_i e l
        split at h
        ·rename_i a b _ _
         have := Jb f _ _ _ _ _ h
         have := WH (UInt8.ofNat (16 * a + b))
         simp only [List.length_append, List.length_cons] at *
         omega
        ·cases h
    ·have := Jb f _ _ _ _ _ h
     have := WH c
     simp only [List.length_append, List.length_cons] at *
     omega
theorem wordF_len {t : List UInt8} (ht : t.length ≤ 512) {p : Nat} (hp : p ≤ t.length) {w : Wd} {q : Nat} (h : Kk t p = .ok (w, q)) : p ≤ q ∧ q ≤ t.length ∧ (w.kind = 0 → q = t.length) ∧ (w.kind ≠ 0 → p < q) ∧ w.text.length ≤ 2048 := by
 obtain ⟨h1, h2⟩ := Vr (fun c => c.toNat == 32) t p hp
 unfold Kk at h
 simp only at h
 split at h
 ·rename_i hd
  cases h
  have : t.length ≤ Yl (fun c => c.toNat == 32) t p := by
    rcases Nat.lt_or_ge (Yl (fun c => c.toNat == 32) t p) t.length with g | g
    ·rw [List.drop_eq_getElem_cons g] at hd; cases hd
    ·exact g
  refine ⟨h1, h2, fun _ => by omega, fun h => absurd rfl h, by simp⟩
 ·rename_i c l hd
  have hq : Yl (fun c => c.toNat == 32) t p < t.length := by
    rcases Nat.lt_or_ge (Yl (fun c => c.toNat == 32) t p) t.length with g | g
    ·exact g
    ·rw [List.drop_eq_nil_of_le g] at hd; cases hd
  generalize Yl (fun c => c.toNat == 32) t p = k at *
  have hk := congrArg List.length hd
  rw [List.length_drop, List.length_cons] at hk
  split at h
  ·rename_i hs
   cases h
   obtain ⟨g1, g2⟩ := Vr Vi t k (by omega)
   have g3 := KY (so := Vi) hd (by simp [Vi, hs])
   have g4 := JP Vi (t.drop k)
   rw [List.length_drop] at g4
   exact ⟨by omega, g2, fun h => (by cases h), fun _ => by omega, by show (List.takeWhile Vi _).length ≤ _; omega⟩
  split at h
  ·rename_i hs
   split at h
   ·rename_i x hx
    cases h
    unfold numF at hx
    simp only at hx
    split at hx
    ·cases hx
    ·cases hx
     obtain ⟨g1, g2⟩ := Vr Yt t k (by omega)
     have g3 := KY (so := Yt) hd hs
     have g4 := JP Yt (t.drop k)
     rw [List.length_drop] at g4
     exact ⟨by omega, g2, fun h => (by cases h), fun _ => by omega, by show (List.takeWhile Yt _).length ≤ _; omega⟩
   ·cases h
  split at h
  ·split at h
   ·rename_i x hx
    cases h
    unfold strF at hx
    rw [Option.map_eq_some_iff] at hx
    obtain ⟨r, hr, he⟩ := hx
    cases he
    have := Jb _ _ _ _ _ _ hr
    rw [List.length_drop] at this
    simp only [List.length_cons, List.length_nil] at this
    exact ⟨by omega, by omega, fun h => (by cases h), fun _ => by omega, by show r.2.1.length ≤ _; omega⟩
   ·cases h
  ·split at h
   ·rename_i s hs
    cases h
    have hm := List.mem_of_find?_eq_some hs
    have hp2 := List.find?_some hs
    have hpre : s <+: c :: l := by simpa using hp2
    have hl := hpre.length_le
    rw [List.length_cons] at hl
    have hb : 1 ≤ s.length ∧ s.length ≤ 2 := by
      simp only [Wm, List.mem_cons, List.not_mem_nil, or_false] at hm
      rcases hm with rfl | rfl | rfl | rfl | rfl | rfl | rfl | rfl | rfl <;> simp
    exact ⟨by omega, by omega, fun h => (by cases h), fun _ => by omega, by show s.length ≤ _; omega⟩
   ·cases h
def Qst.m (t : List UInt8) (s : Qst) : Nat := (t.length - s.far) + (if s.nxt.kind = 0 then 0 else 1)
structure QI (t : List UInt8) (s : Qst) : Prop where
 far : s.far ≤ t.length
 out : s.out.length + s.m t ≤ t.length + 1
 deep : s.deep ≤ 16
 text : ∀ w ∈ s.out, w.text.length ≤ 2048
 next : s.nxt.text.length ≤ 2048
def Qgo (t : List UInt8) (s s' : Qst) : Prop := QI t s' ∧ s'.m t ≤ s.m t ∧ s'.deep = s.deep
theorem Qgo.trans {t : List UInt8} {a b c : Qst} (h : Qgo t a b) (h' : Qgo t b c) : Qgo t a c := ⟨h'.1, Nat.le_trans h'.2.1 h.2.1, h'.2.2.trans h.2.2⟩
theorem YT {t : List UInt8} (ht : t.length ≤ 512) {s : Qst} (hI : QI t s) (hk : s.nxt.kind ≠ 0) {w : Wd} {s' : Qst} (h : Vw t s = .ok (w, s')) : Qgo t s s' ∧ s'.m t + 1 ≤ s.m t ∧ w = s.nxt := by
 unfold Vw Jc at h
 simp only at h
 cases hw : Kk t s.far with
 | error p => rw [hw] at h; cases h
 | ok x =>
   rw [hw] at h
   have hs : s' = { far := x.2, nxt := x.1, out := s.out ++ [s.nxt], deep := s.deep } ∧ w = s.nxt := by cases h; exact ⟨rfl, rfl⟩
   obtain ⟨rfl, rfl⟩ := hs
   obtain ⟨g1, g2, g3, g4, g5⟩ := wordF_len ht hI.far (w := x.1) (q := x.2) hw
   have hm : ({ far := x.2, nxt := x.1, out := s.out ++ [s.nxt], deep := s.deep } : Qst).m t + 1 ≤ s.m t := by
     unfold Qst.m
     simp only
     rw [if_neg hk]
     split
     ·omega
     ·rename_i hn; have := g4 hn; omega
   refine ⟨⟨⟨g2, ?_, hI.deep, fun w hw2 => ?_, g5⟩, by omega, rfl⟩, hm, rfl⟩
   ·have := hI.out
    show (s.out ++ [s.nxt]).length + _ ≤ _
    rw [List.length_append, List.length_singleton]; omega
   ·rcases List.mem_append.1 hw2 with h1 | h1
    ·exact hI.text w h1
    ·rw [List.mem_singleton.1 h1]; exact hI.next
theorem Y1 {s : Qst} {w : List UInt8} (h : isF s w = true) : s.nxt.kind ≠ 0 := by
 intro e; simp [isF, e] at h
theorem map_ok {ε α β : Type} {f : α → β} {x : Except ε α} {b : β} (h : x.map f = .ok b) : ∃ a, x = .ok a ∧ f a = b := by
 cases x with
 | error e => cases h
 | ok a => cases h; exact ⟨a, rfl, rfl⟩
theorem bind_ok {ε α β : Type} {f : α → Except ε β} {x : Except ε α} {b : β} (h : x.bind f = .ok b) : ∃ a, x = .ok a ∧ f a = .ok b := by
 cases x with
 | error e => cases h
 | ok a => exact ⟨a, rfl, h⟩
theorem Q8 {t : List UInt8} (ht : t.length ≤ 512) {k : Nat} (hk : k ≠ 0) {s : Qst} (hI : QI t s) {w : Wd} {s' : Qst} (h : La t k s = .ok (w, s')) : Qgo t s s' := by
 unfold La at h
 split at h
 ·rename_i e; exact (YT ht hI (by omega) h).1
 ·cases h
theorem Ue {t : List UInt8} (ht : t.length ≤ 512) {ws : List (List UInt8)} {s : Qst} (hI : QI t s) {w : List UInt8} {s' : Qst} (h : Km t ws s = .ok (w, s')) : Qgo t s s' := by
 unfold Km at h
 split at h
 ·rename_i e
  obtain ⟨a, h1, h2⟩ := map_ok h
  cases h2
  exact (YT ht hI (by omega) (w := a.1) (s' := a.2) h1).1
 ·cases h
theorem Jk {t : List UInt8} (ht : t.length ≤ 512) {s : Qst} (hI : QI t s) (hk : s.nxt.kind ≠ 0) {s' : Qst} (h : LH t s = .ok s') : QI t s' ∧ s'.m t + 1 ≤ s.m t ∧ s'.deep = s.deep + 1 := by
 unfold LH at h
 split at h
 ·cases h
 ·rename_i hd
  obtain ⟨a, h1, h2⟩ := map_ok h
  cases h2
  have hI2 : QI t { s with deep := s.deep + 1 } := ⟨hI.far, hI.out, by simp only; omega, hI.text, hI.next⟩
  have h3 := YT ht hI2 hk (w := a.1) (s' := a.2) h1
  exact ⟨h3.1.1, h3.2.1, h3.1.2.2⟩
theorem Qgo.shallow {t : List UInt8} {s : Qst} (hI : QI t s) : QI t { s with deep := s.deep - 1 } := ⟨hI.far, hI.out, by have := hI.deep; simp only; omega, hI.text, hI.next⟩
theorem testF_go {fs : List Fml} {t : List UInt8} (ht : t.length ≤ 512) {s : Qst} (hI : QI t s) {a : Tst} {s' : Qst} (h : testF fs t s = .ok (a, s')) : Qgo t s s' := by
 unfold testF at h
 split at h
 ·rename_i hi
  obtain ⟨x, h1, h⟩ := bind_ok h
  obtain ⟨y, h2, h⟩ := bind_ok h
  have g1 := (YT ht hI (Y1 hi) (w := x.1) (s' := x.2) h1).1
  have g2 := Ue ht g1.1 (w := y.1) (s' := y.2) h2
  split at h
  ·cases h
  ·rename_i hc
   obtain ⟨z, h3, h⟩ := map_ok h
   cases h
   exact (g1.trans g2).trans (YT ht g2.1 (by omega) (w := z.1) (s' := z.2) h3).1
 split at h
 ·rename_i hi
  have hk : s.nxt.kind ≠ 0 := by rcases hi with hi | hi <;> exact Y1 hi
  obtain ⟨x, h1, h⟩ := bind_ok h
  obtain ⟨y, h2, h⟩ := bind_ok h
  obtain ⟨z, h3, h⟩ := map_ok h
  cases h
  have g1 := (YT ht hI hk (w := x.1) (s' := x.2) h1).1
  have g2 := Ue ht g1.1 (w := y.1) (s' := y.2) h2
  exact (g1.trans g2).trans (Q8 ht (by decide) g2.1 (w := z.1) (s' := z.2) h3)
 split at h
 ·rename_i hi
  obtain ⟨x, h1, h⟩ := bind_ok h
  obtain ⟨y, h2, h⟩ := bind_ok h
  obtain ⟨z, h3, h⟩ := map_ok h
  cases h
  have g1 := (YT ht hI (Y1 hi) (w := x.1) (s' := x.2) h1).1
  have g2 := Ue ht g1.1 (w := y.1) (s' := y.2) h2
  exact (g1.trans g2).trans (Q8 ht (by decide) g2.1 (w := z.1) (s' := z.2) h3)
 ·cases h
section
variable {fs : List Fml} {t : List UInt8}
theorem Va (ht : t.length ≤ 512) : ∀ f, (∀ s a s', QI t s → Kw fs t f s = .ok (a, s') → Qgo t s s') ∧ (∀ b s a s', QI t s → orsF fs t f b s = .ok (a, s') → Qgo t s s') ∧ (∀ s a s', QI t s → Kl fs t f s = .ok (a, s') → Qgo t s s') ∧ (∀ b s a s', QI t s → Mv fs t f b s = .ok (a, s') → Qgo t s s') ∧ (∀ s a s', QI t s → Jt fs t f s = .ok (a, s') → Qgo t s s')
 | 0 => by
   refine ⟨?_, ?_, ?_, ?_, ?_⟩ <;> intros <;> rename_i h
   ·simp only [Kw] at h; cases h
   ·simp only [orsF] at h; cases h
   ·simp only [Kl] at h; cases h
   ·simp only [Mv] at h; cases h
   ·simp only [Jt] at h; cases h
 | f + 1 => by
   obtain ⟨i1, i2, i3, i4, i5⟩ := Va ht f
   refine ⟨fun s a s' hI h => ?_, fun b s a s' hI h => ?_, fun s a s' hI h => ?_, fun b s a s' hI h => ?_, fun s a s' hI h => ?_⟩
   ·simp only [Kw] at h
    obtain ⟨x, h1, h⟩ := bind_ok h
    have g := i3 s x.1 x.2 hI h1
    exact g.trans (i2 _ _ _ _ g.1 h)
   ·simp only [orsF] at h
    split at h
    ·rename_i hi
     obtain ⟨x, h1, h⟩ := bind_ok h
     obtain ⟨y, h2, h⟩ := bind_ok h
     have g := (YT ht hI (Y1 hi) (w := x.1) (s' := x.2) h1).1
     have g2 := i3 _ y.1 y.2 g.1 h2
     exact (g.trans g2).trans (i2 _ _ _ _ g2.1 h)
    ·cases h; exact ⟨hI, Nat.le_refl _, rfl⟩
   ·simp only [Kl] at h
    obtain ⟨x, h1, h⟩ := bind_ok h
    have g := i5 s x.1 x.2 hI h1
    exact g.trans (i4 _ _ _ _ g.1 h)
   ·simp only [Mv] at h
    split at h
    ·rename_i hi
     obtain ⟨x, h1, h⟩ := bind_ok h
     obtain ⟨y, h2, h⟩ := bind_ok h
     have g := (YT ht hI (Y1 hi) (w := x.1) (s' := x.2) h1).1
     have g2 := i5 _ y.1 y.2 g.1 h2
     exact (g.trans g2).trans (i4 _ _ _ _ g2.1 h)
    ·cases h; exact ⟨hI, Nat.le_refl _, rfl⟩
   ·simp only [Jt] at h
    split at h
    ·rename_i hi
     obtain ⟨x, h1, h⟩ := bind_ok h
     obtain ⟨y, h2, h⟩ := map_ok h
     cases h
     obtain ⟨g1, g2, g3⟩ := Jk ht hI (Y1 hi) h1
     have g4 := i5 _ y.1 y.2 g1 h2
     refine ⟨Qgo.shallow g4.1, ?_, ?_⟩
     ·have e : ({ y.2 with deep := y.2.deep - 1 } : Qst).m t = y.2.m t := rfl
      rw [e]; have := g4.2.1; omega
     ·show y.2.deep - 1 = s.deep
      rw [g4.2.2, g3]; omega
    split at h
    ·rename_i hi
     obtain ⟨x, h1, h⟩ := bind_ok h
     obtain ⟨y, h2, h⟩ := bind_ok h
     obtain ⟨g1, g2, g3⟩ := Jk ht hI (Y1 hi) h1
     have g4 := i1 _ y.1 y.2 g1 h2
     split at h
     ·rename_i hi2
      obtain ⟨z, h3, h⟩ := map_ok h
      cases h
      have g5 := YT ht (Qgo.shallow g4.1) (Y1 hi2) (w := z.1) (s' := z.2) h3
      have e : ({ y.2 with deep := y.2.deep - 1 } : Qst).m t = y.2.m t := rfl
      refine ⟨g5.1.1, ?_, ?_⟩
      ·have h6 := g5.1.2.1; rw [e] at h6; have := g4.2.1; omega
      ·have h6 := g5.1.2.2
       show z.2.deep = s.deep
       rw [h6]
       show y.2.deep - 1 = s.deep
       rw [g4.2.2, g3]; omega
     ·cases h
    ·exact testF_go ht hI h
end
section
variable {t : List UInt8} {f i : Nat} {s x : List UInt8}
theorem drop_at (h : i < t.length) : t.drop i = t.getD i 0 :: t.drop (i + 1) := by
 rw [List.drop_eq_getElem_cons h]
 simp [List.getD, h]
theorem strG_end (h : t.length ≤ i) : strG (f + 1) (t.drop i) i s x = none := by
 rw [List.drop_eq_nil_of_le h]; rfl
theorem strG_quote (h : i < t.length) (hc : (t.getD i 0).toNat = 34) : strG (f + 1) (t.drop i) i s x = some (s, x ++ [34], i + 1) := by
 rw [drop_at h]; unfold strG; simp only; rw [if_pos hc]
theorem strG_bad (h : i < t.length) (h0 : ¬ (t.getD i 0).toNat = 34) (hc : (t.getD i 0).toNat < 32 ∨ 126 < (t.getD i 0).toNat) : strG (f + 1) (t.drop i) i s x = none := by
 rw [drop_at h]; unfold strG; simp only; rw [if_neg h0, if_pos hc]
theorem strG_plain (h : i < t.length) (h0 : ¬ (t.getD i 0).toNat = 34) (h1 : ¬ ((t.getD i 0).toNat < 32 ∨ 126 < (t.getD i 0).toNat)) (h2 : ¬ (t.getD i 0).toNat = 92) :
   strG (f + 1) (t.drop i) i s x = strG f (t.drop (i + 1)) (i + 1) (s ++ [t.getD i 0]) (x ++ Xz (t.getD i 0)) := by
 rw [drop_at h]; conv => lhs; unfold strG
 simp only; rw [if_neg h0, if_neg h1, if_neg h2]
theorem strG_esc0 (h : i < t.length) (hc : (t.getD i 0).toNat = 92) (hl : t.length ≤ i + 1) : strG (f + 1) (t.drop i) i s x = none := by
 rw [drop_at h, List.drop_eq_nil_of_le hl]; unfold strG; simp only; rw [if_neg (by omega), if_neg (by omega), if_pos hc]
theorem strG_esc1 (h : i + 1 < t.length) (hc : (t.getD i 0).toNat = 92) (hd : (t.getD (i + 1) 0).toNat = 34 ∨ (t.getD (i + 1) 0).toNat = 92) :
   strG (f + 1) (t.drop i) i s x = strG f (t.drop (i + 2)) (i + 2) (s ++ [t.getD (i + 1) 0]) (x ++ Xz (t.getD (i + 1) 0)) := by
 rw [drop_at (by omega : i < t.length), drop_at h]; conv => lhs; unfold strG
 simp only; rw [if_neg (by omega), if_neg (by omega), if_pos hc, if_pos hd]
theorem strG_esc2 (h : i + 1 < t.length) (hc : (t.getD i 0).toNat = 92) (hd : ¬ ((t.getD (i + 1) 0).toNat = 34 ∨ (t.getD (i + 1) 0).toNat = 92)) (hl : t.length ≤ i + 2) :
   strG (f + 1) (t.drop i) i s x = none := by
 rw [drop_at (by omega : i < t.length), drop_at h, List.drop_eq_nil_of_le hl]; unfold strG
 simp only; rw [if_neg (by omega), if_neg (by omega), if_pos hc, if_neg hd]
theorem strG_esc3 (h : i + 2 < t.length) (hc : (t.getD i 0).toNat = 92) (hd : ¬ ((t.getD (i + 1) 0).toNat = 34 ∨ (t.getD (i + 1) 0).toNat = 92)) (hx : hexV (t.getD (i + 1) 0) = none ∨ hexV (t.getD (i + 2) 0) = none) :
   strG (f + 1) (t.drop i) i s x = none := by
 rw [drop_at (by omega : i < t.length), drop_at (by omega : i + 1 < t.length), drop_at h]; unfold strG
 simp only; rw [if_neg (by omega), if_neg (by omega), if_pos hc, if_neg hd]
 rcases hx with hx | hx
 ·rw [hx]
 ·rw [hx]; cases hexV (t.getD (i + 1) 0) <;> rfl
theorem strG_esc4 (h : i + 2 < t.length) (hc : (t.getD i 0).toNat = 92) (hd : ¬ ((t.getD (i + 1) 0).toNat = 34 ∨ (t.getD (i + 1) 0).toNat = 92)) {a b : Nat} (ha : hexV (t.getD (i + 1) 0) = some a) (hb : hexV (t.getD (i + 2) 0) = some b) :
   strG (f + 1) (t.drop i) i s x = strG f (t.drop (i + 3)) (i + 3) (s ++ [UInt8.ofNat (16 * a + b)]) (x ++ Xz (UInt8.ofNat (16 * a + b))) := by
 rw [drop_at (by omega : i < t.length), drop_at (by omega : i + 1 < t.length), drop_at h]; conv => lhs; unfold strG
 simp only; rw [if_neg (by omega), if_neg (by omega), if_pos hc, if_neg hd, ha, hb]
theorem hexV_lt {c : UInt8} {a : Nat} (h : hexV c = some a) : a < 16 := by
 unfold hexV Yt at h
 split at h
 ·rename_i hc; cases h; simp at hc; omega
 ·split at h
  ·cases h; omega
  ·cases h
end
instance : Inhabited Wd := ⟨⟨0, 0, [], 0, []⟩⟩
def We (o : Option Wd) (w : Wd) : List UInt8 := match o with | none => [] | some v => if w.text ≠ [41] ∧ v.text ≠ [40] then [32] else []
theorem U7 (o : Option Wd) (w : Wd) (l : List Wd) : Wy o (w :: l) = We o w ++ w.text ++ Wy (some w) l := by
 cases o with
 | none => rfl
 | some v => rfl
theorem Ky : ∀ (l : List Wd) (o : Option Wd) (w : Wd), Wy o (l ++ [w]) = Wy o l ++ (We (match l.getLast? with | some v => some v | none => o) w ++ w.text)
 | [], o, w => by cases o <;> simp [Wy, We]
 | v :: l, o, w => by
   rw [List.cons_append, U7, U7, Ky l (some v) w]
   have e : (match (v :: l).getLast? with | some u => some u | none => o) = (match l.getLast? with | some u => some u | none => some v) := by
     rw [List.getLast?_cons]
     cases l.getLast? <;> rfl
   rw [e]; simp [List.append_assoc]
theorem canonG_take (l : List Wd) {i : Nat} (h : i < l.length) : Wy none (l.take (i + 1)) = Wy none (l.take i) ++ (We (if i = 0 then none else some (l.getD (i - 1) default)) (l.getD i default) ++ (l.getD i default).text) := by
 have e : l.take (i + 1) = l.take i ++ [l.getD i default] := by
   rw [List.take_succ_eq_append_getElem h]; simp [List.getD, List.getElem?_eq_getElem h]
 rw [e, Ky]
 have e2 : (l.take i).getLast? = if i = 0 then none else some (l.getD (i - 1) default) := by
   by_cases hi : i = 0
   ·subst hi; rfl
   ·rw [if_neg hi, List.getLast?_eq_getElem?, List.length_take, Nat.min_eq_left (by omega), List.getElem?_take_of_lt (by omega), List.getElem?_eq_getElem (by omega)]
    simp [List.getD, List.getElem?_eq_getElem (show i - 1 < l.length by omega)]
 rw [e2]
 by_cases hi : i = 0 <;> simp [hi]
theorem canonSep_len (o : Option Wd) (w : Wd) : (We o w).length ≤ 1 := by
 unfold We
 cases o with
 | none => simp
 | some v => simp only; split <;> simp
theorem Mf : ∀ (l : List Wd) (o : Option Wd), (∀ w ∈ l, w.text.length ≤ 2048) → (Wy o l).length ≤ 2049 * l.length
 | [], o, _ => by cases o <;> simp [Wy]
 | w :: l, o, h => by
   have h1 := Mf l (some w) fun x hx => h x (by simp [hx])
   have h2 := h w (by simp)
   have h3 := canonSep_len o w
   rw [U7]
   simp only [List.length_append, List.length_cons]
   omega
theorem Xb {ε α β : Type} (a : α) (f : α → Except ε β) : (Except.ok a : Except ε α).bind f = f a := rfl
theorem QW {ε α β : Type} (a : α) (f : α → β) : (Except.ok a : Except ε α).map f = .ok (f a) := rfl
theorem er_map {ε α β : Type} (a : ε) (f : α → β) : (Except.error a : Except ε α).map f = .error a := rfl
theorem QI.outs {t : List UInt8} {s : Qst} (h : QI t s) (ht : t.length ≤ 512) : s.out.length ≤ 1000000 := by have := h.out; omega
end Go.Rt
namespace Go.Proofs.YtifnhpmeoogedaaGreatDoor
open Go Go.Sx Go.Rt Go.Proofs Tryz
theorem Xr (fs : List Fml) (t : List UInt8) (s : Qst) (kr ko ver : Nat) (w : List UInt8) (H : Heap) (n : Nat) (hR : H kr = some (qdO fs t s ko ver)) :
   Ret prog 186 [.loc kr 0 0 0 [], .str w] H n (.bool (isF s w)) H n := by
 have hR1 := hR
 unfold qdO at hR1
 have hszs : (Zt fs).sz = 1 := rfl
 have hszb : ∀ b, (bys b).sz = 1 := fun _ => rfl
 refine Zc func186 rfl ntmps186 (congrArg Array.toList results186) (by simp) ?_
 simp only [go_sem]
 refine Za zs [0, 1] fun K Y => ?_
 simp only [go_sem, seval]
 apply Y; clear Y K
 refine Za zs [4] fun K Y => ?_
 simp only [go_sem, seval, hR1, wdAV]
 repeat refine peel ?_
 apply Y; clear Y K
 refine Zf ?_
 simp only [go_sem, seval]
 unfold isF; have i1 : ((s.nxt.kind : Int) == 1) = (s.nxt.kind == 1) := by rw [Bool.eq_iff_iff, beq_iff_eq, beq_iff_eq]; omega
 have i2 : ((s.nxt.kind : Int) == 4) = (s.nxt.kind == 4) := by rw [Bool.eq_iff_iff, beq_iff_eq, beq_iff_eq]; omega
 simp_all
theorem KW (w : Wd) (n : Nat) : (wdAV w).kl n := ⟨trivial, trivial, trivial, trivial, ZJ _ _, trivial⟩
theorem kl_schQ (s : List Fml) (n : Nat) : (Zt s).kl n := by
 unfold Zt
 exact ⟨Xl XG (fun x => ⟨trivial, trivial, trivial, trivial⟩) s, trivial⟩
def outO (s : Qst) (ver : Nat) : AObj := .arr ver 5 (s.out.map wdAV)
def qst (fs : List Fml) (t : List UInt8) (kr ko : Nat) (s : Qst) (ver : Nat) (H : Heap) : Heap := (H.put ko (some (outO s ver))).put kr (some (qdO fs t s ko ver))
def QdK (fs : List Fml) (t : List UInt8) (kr ko : Nat) (H : Heap) (n : Nat) (r : Except Nat (AV × Qst)) (res : ARes) (H' : Heap) (n' : Nat) : Prop :=
 match r with
 | .ok x => ∃ ver, res = .val x.1 ∧ H' = qst fs t kr ko x.2 ver H ∧ n' = n
 | .error p => res = .pan (Uq p) ∧ n ≤ n' ∧ ∀ k, k < n → k ≠ kr → k ≠ ko → H' k = H k
theorem QdK.val {fs : List Fml} {t : List UInt8} {kr ko : Nat} {H : Heap} {n : Nat} {r : Except Nat (AV × Qst)} {v : AV} {H' : Heap} {n' : Nat} (h : QdK fs t kr ko H n r (.val v) H' n') : ∃ s ver, r = .ok (v, s) ∧ H' = qst fs t kr ko s ver H ∧ n' = n := by
 cases r with
 | ok x => obtain ⟨ver, h1, h2, h3⟩ := h; cases h1; exact ⟨x.2, ver, rfl, h2, h3⟩
 | error p => cases h.1
theorem QdK.pan {fs : List Fml} {t : List UInt8} {kr ko : Nat} {H : Heap} {n : Nat} {r : Except Nat (AV × Qst)} {v : AV} {H' : Heap} {n' : Nat} (h : QdK fs t kr ko H n r (.pan v) H' n') : ∃ p, r = .error p ∧ v = Uq p ∧ n ≤ n' ∧ ∀ k, k < n → k ≠ kr → k ≠ ko → H' k = H k := by
 cases r with
 | ok x => obtain ⟨ver, h1, _⟩ := h; cases h1
 | error p => obtain ⟨h1, h2, h3⟩ := h; cases h1; exact ⟨p, rfl, rfl, h2, h3⟩
def qdAV (fs : List Fml) (t : List UInt8) (s : Qst) (ko ver : Nat) : AV := .agg [Zt fs, .str t, .int .i64 s.far, wdAV s.nxt, .osl ko ver 0 s.out.length, .int .i64 s.deep]
theorem Jq (fs : List Fml) (t : List UInt8) (s : Qst) {ko ver n : Nat} (hk : ko < n) : (qdAV fs t s ko ver).kl n := ⟨kl_schQ fs n, trivial, trivial, KW _ n, hk, trivial, trivial⟩
structure QdH (fs : List Fml) (t : List UInt8) (kr ko : Nat) (s : Qst) (ver : Nat) (H : Heap) (n : Nat) : Prop where
 lr : kr < n
 lo : ko < n
 ne : kr ≠ ko
 r : H kr = some (qdO fs t s ko ver)
 o : H ko = some (outO s ver)
section
variable {fs : List Fml} {t : List UInt8} {kr ko : Nat} {s s' : Qst} {ver ver' : Nat} {H H' : Heap} {n n' : Nat}
theorem QdH.on (h : QdH fs t kr ko s ver H n) (h1 : H' kr = H kr) (h2 : H' ko = H ko) (hn : n ≤ n') : QdH fs t kr ko s ver H' n' :=
 ⟨Nat.lt_of_lt_of_le h.lr hn, Nat.lt_of_lt_of_le h.lo hn, h.ne, h1.trans h.r, h2.trans h.o⟩
theorem QdH.low (h : QdH fs t kr ko s ver H n) (hl : ∀ k, k < n → H' k = H k) (hn : n ≤ n') : QdH fs t kr ko s ver H' n' := h.on (hl _ h.lr) (hl _ h.lo) hn
theorem QdH.turn (h : QdH fs t kr ko s ver H n) (s' : Qst) (ver' : Nat) : QdH fs t kr ko s' ver' (qst fs t kr ko s' ver' H) n :=
 ⟨h.lr, h.lo, h.ne, MG _ _ _, by unfold qst; rw [ME _ _ h.ne.symm, MG]⟩
theorem QdK.get {r : Except Nat (AV × Qst)} {v : AV} {s0 : Qst} {ver0 : Nat} (hk : QdK fs t kr ko H n r (.val v) H' n') (h : QdH fs t kr ko s0 ver0 H n) : ∃ s ver, r = .ok (v, s) ∧ QdH fs t kr ko s ver H' n ∧ n' = n ∧ ∀ k, k ≠ kr → k ≠ ko → H' k = H k := by
 obtain ⟨s, ver, h1, rfl, rfl⟩ := hk.val
 exact ⟨s, ver, h1, h.turn s ver, rfl, fun k e1 e2 => by unfold qst; rw [ME _ _ e1, ME _ _ e2]⟩
def QdE (fs : List Fml) (t : List UInt8) (kr ko : Nat) (H : Heap) (n : Nat) (r : Except Nat (AV × Qst)) (res : ARes) (H1 : Heap) (n' : Nat) : Prop :=
 (∃ v v' s ver a, res = .val v ∧ r = .ok (v', s) ∧ H1 kr = some (.arr 0 10 [a]) ∧ Frz H1 n a (qdAV fs t s ko ver) ∧ H1 ko = some (outO s ver) ∧ (∀ k, k < n → k ≠ kr → k ≠ ko → H1 k = H k) ∧ Frz H1 n v v') ∨ (∃ p, r = .error p ∧ res = .pan (Uq p) ∧ n ≤ n' ∧ ∀ k, k < n → k ≠ kr → k ≠ ko → H1 k = H k)
theorem QdE.err {r : Except Nat (AV × Qst)} {p : Nat} (hr : r = .error p) (hn : n ≤ n') (hl : ∀ k, k < n → k ≠ kr → k ≠ ko → H' k = H k) : QdE fs t kr ko H n r (.pan (Uq p)) H' n' := .inr ⟨p, hr, rfl, hn, hl⟩
theorem QdE.val {r : Except Nat (AV × Qst)} {v v' a : AV} {s : Qst} {ver : Nat} (hr : r = .ok (v', s)) (h1 : H' kr = some (.arr 0 10 [a])) (h2 : Frz H' n a (qdAV fs t s ko ver)) (h3 : H' ko = some (outO s ver)) (hl : ∀ k, k < n → k ≠ kr → k ≠ ko → H' k = H k) (hf : Frz H' n v v') : QdE fs t kr ko H n r (.val v) H' n' := .inl ⟨v, v', s, ver, a, rfl, hr, h1, h2, h3, hl, hf⟩
theorem QdE.ok {r : Except Nat (AV × Qst)} {v v' : AV} {s : Qst} {ver m : Nat} (hr : r = .ok (v', s)) (h : QdH fs t kr ko s ver H' m) (hk : ko < n) (hl : ∀ k, k < n → k ≠ kr → k ≠ ko → H' k = H k) (hf : Frz H' n v v') : QdE fs t kr ko H n r (.val v) H' n' := .inl ⟨v, v', s, ver, _, rfl, hr, h.r, .kl (Jq fs t s hk), h.o, hl, hf⟩
theorem QdK.up {r : Except Nat (AV × Qst)} {v : AV} {H2 : Heap} {n2 : Nat} {r0 : Except Nat (AV × Qst)} (h : QdK fs t kr ko H' n' r (.pan v) H2 n2) (hr : ∀ p, r = .error p → r0 = .error p) (hn : n ≤ n') (hl : ∀ k, k < n → k ≠ kr → k ≠ ko → H' k = H k) : QdE fs t kr ko H n r0 (.pan v) H2 n2 := by
 obtain ⟨p, h1, rfl, h2, h3⟩ := h.pan
 exact QdE.err (hr p h1) (Nat.le_trans hn h2) fun k e1 e2 e3 => (h3 k (Nat.lt_of_lt_of_le e1 hn) e2 e3).trans (hl k e1 e2 e3)
theorem QdK.fin {P : Program} {f : FuncId} {args : List AV} {r : Except Nat (AV × Qst)} (hk : kr < n) (hk2 : ko < n) (hne : kr ≠ ko) (h : Zx P f args H n (QdE fs t kr ko H n r)) : Zx P f args H n (QdK fs t kr ko H n r) :=
 M5 (h.mono fun res H1 n' hd => by
   rcases hd with ⟨v, v', s, ver, a, h1, h2, h3, h4, h5, h6, h7⟩ | ⟨p, h1, h2, h3, h4⟩
   ·refine .inl ⟨v, v', qst fs t kr ko s ver H, h1, fun k hk3 => ?_, fun k hk3 => ?_, h7, ?_⟩
    ·unfold qst
     by_cases e : k = kr
     ·subst e
      exact .inr ⟨0, 10, [a], [qdAV fs t s ko ver], h3, MG _ _ _, .cons h4 .nil⟩
     ·rw [LowO, ME _ _ e]
      by_cases e2 : k = ko
      ·subst e2
       rw [MG, h5]
       exact .inl ⟨rfl, .inr fun o ho => by cases ho; exact Xl wdAV (fun x => KW x n) _⟩
      ·rw [ME _ _ e2, h6 k hk3 e e2]
       exact .inl ⟨rfl, .inl rfl⟩
    ·unfold qst
     rw [ME _ _ (by omega), ME _ _ (by omega)]
    ·rw [h2]; exact ⟨ver, rfl, rfl, rfl⟩
   ·exact .inr ⟨_, h2, by rw [h1]; exact ⟨rfl, h3, h4⟩⟩)
end
def digN (l : List UInt8) : Nat := l.foldl (fun n c => 10 * n + (c.toNat - 48)) 0
theorem digN_snoc (l : List UInt8) (c : UInt8) : digN (l ++ [c]) = 10 * digN l + (c.toNat - 48) := by simp [digN]
theorem digN_lt' : ∀ (l : List UInt8) (a : Nat), (∀ c ∈ l, Yt c = true) → l.foldl (fun n c => 10 * n + (c.toNat - 48)) a < (a + 1) * 10 ^ l.length
 | [], a, _ => by simp
 | c :: l, a, h => by
   have ih := digN_lt' l (10 * a + (c.toNat - 48)) fun x hx => h x (by simp [hx])
   have h2 := h c (by simp)
   unfold Yt at h2
   simp only [Bool.and_eq_true, decide_eq_true_eq] at h2
   rw [List.foldl_cons, List.length_cons, Nat.pow_succ, Nat.mul_comm (10 ^ l.length), ← Nat.mul_assoc]
   exact Nat.lt_of_lt_of_le ih (Nat.mul_le_mul_right _ (by omega))
theorem digN_lt (l : List UInt8) (h : ∀ c ∈ l, Yt c = true) : digN l < 10 ^ l.length := by
 have := digN_lt' l 0 h
 simpa [digN] using this
theorem digN_step {l : List UInt8} (hl : ∀ c ∈ l, Yt c = true) {i : Nat} (h : i < l.length) (h14 : i < 14) : digN (l.take i) < 100000000000000 ∧ 48 ≤ (l.getD i 0).toNat ∧ (l.getD i 0).toNat ≤ 57 ∧ digN (l.take (i + 1)) = 10 * digN (l.take i) + ((l.getD i 0).toNat - 48) := by
 have h1 := digN_lt (l.take i) fun c hc => hl c (List.mem_of_mem_take hc)
 have h2 : 10 ^ (l.take i).length ≤ 10 ^ 14 := Nat.pow_le_pow_right (by omega) (by rw [List.length_take]; omega)
 have e : l.getD i 0 = l[i] := by simp [List.getD, h]
 have h3 := hl l[i] (List.getElem_mem h)
 unfold Yt at h3
 simp only [Bool.and_eq_true, decide_eq_true_eq] at h3
 refine ⟨by omega, by rw [e]; omega, by rw [e]; omega, ?_⟩
 rw [List.take_succ_eq_append_getElem h, digN_snoc, e]
theorem numF_eq (t : List UInt8) (p : Nat) : numF t p = if 1099511627776 < digN (((t.drop p).takeWhile Yt).take 14) ∨ (1 < ((t.drop p).takeWhile Yt).length ∧ ((t.drop p).takeWhile Yt).getD 0 0 = 48) then none else some (⟨2, p, (t.drop p).takeWhile Yt, digN (((t.drop p).takeWhile Yt).take 14), []⟩, Yl Yt t p) := rfl
theorem Mm (fs : List Fml) (t : List UInt8) (s : Qst) (kr ko ver : Nat) (ht : t.length ≤ 512) (p : Nat) (hp : p ≤ t.length) (H : Heap) (n : Nat) (h : QdH fs t kr ko s ver H n) :
   Zx prog 182 [.loc kr 0 0 0 [], .int .i64 p] H n (QdK fs t kr ko H n (match numF t p with | some x => .ok (wdAV x.1, { s with far := x.2 }) | none => .error p)) := by
 have hR := h.r
 have hR1 := hR
 unfold qdO at hR1
 have hk := h.lr
 have hko := h.lo
 have hne := h.ne
 have hszs : (Zt fs).sz = 1 := rfl
 have hszb : ∀ b, (bys b).sz = 1 := fun _ => rfl
 have hkn : kr ≠ n := by omega
 have hnk : n ≠ kr := by omega
 obtain ⟨hw1, hw2⟩ := Vr Yt t p hp
 have hcut := KZ Yt t p
 have hdl := JP Yt (t.drop p)
 rw [List.length_drop] at hdl
 have hds : ∀ c ∈ (t.drop p).takeWhile Yt, Yt c = true := fun c hc => by
   have := List.all_takeWhile (p := Yt) (l := t.drop p)
   exact List.all_eq_true.1 this c hc
 obtain ⟨r, hr⟩ : ∃ r, r = (match numF t p with | some x => .ok (wdAV x.1, { s with far := x.2 }) | none => .error p : Except Nat (AV × Qst)) := ⟨_, rfl⟩
 rw [← hr]
 rw [numF_eq] at hr
 generalize (t.drop p).takeWhile Yt = d at *
 refine QdK.fin hk hko hne ?_
 refine Zc func182 rfl ntmps182 (congrArg Array.toList results182) (by simp) ?_
 simp only [go_sem]
 refine Za zs [0, 1, 4] fun K Y => ?_
 simp only [go_sem, seval]
 apply Y; clear Y K
 refine Za zs [0, 1, 4] fun K Y => ?_
 simp only [go_sem, seval]
 refine Zg func177 rfl rfl rfl ((V8 fs t s kr ko ver ht p hp Yt _ func181 rfl rfl _ _ (fun b _ _ => V9 b _ _) (by simp [Heap.put, hkn, hR]))) ?_
 simp only [go_sem, seval, hR1, wdAV, hkn]
 apply Y; clear Y K
 refine YJ rfl zs [1, 4, 5] [.m, .q, .q, .q, .m, .m, .q, .q, .q, .q, .q] (by kernel_rfl) (fun _ _ _ _ _ h => h) fun K Y => ?_
 simp only [go_sem, seval, Option.getD_some, Int.toNat_natCast, hcut]
 repeat refine peel ?_
 apply Y; clear Y K
 refine Za zs [1, 4, 5, 6] fun K Y => ?_
 simp only [go_sem, seval]
 apply Y; clear Y K
 refine Zb fun K1 hK1 => ?_
 refine Za zs [1, 4, 5, 6, 7] fun K Y => ?_
 simp only [go_sem, seval]
 apply Y; clear Y K
 refine Zj ?_
 refine Zz (fun T' H' n' => ∃ i : Nat, i ≤ d.length ∧ i ≤ 14 ∧ T' = tl [(1, .int .i64 p), (4, .loc n 0 0 0 []), (5, .str d), (6, .int .i64 (digN (d.take i))), (7, .int .i64 i)] ∧ H' = (H.put n (some (.arr 0 5 [.agg [.int .i64 0, .int .i64 0, .str [], .int .i64 0, .nilsl]]))).put kr (some (qdO fs t { s with far := Yl Yt t p } ko ver)) ∧ n' = n + 1) (fun T' _ _ => 14 - iv (T' 7)) ?_ ?_
 ·exact ⟨0, by omega, by omega, rfl, rfl, rfl⟩
 intro T1 H1 n1
 rintro ⟨i, hi, hi14, rfl, rfl, rfl⟩
 refine Zb fun K2 hK2 => ?_
 refine Za zs [1, 4, 5, 6, 7, 31] fun K Y => ?_
 simp only [go_sem, seval]
 repeat refine peel ?_
 apply Y; clear Y K
 refine Ze ?_ ?_ <;> intro hb
 ·have hb1 : i < d.length ∧ i < 14 := by have hb0 : i < d.length ∧ (i : Int) < 14 := (by simpa using hb); exact ⟨hb0.1, by omega⟩
  obtain ⟨g1, g2, g3, g4⟩ := digN_step hds hb1.1 hb1.2
  have e1 : IntKind.u8.wrap ((((d.getD i 0).toNat : Nat) : Int) - 48) = (((d.getD i 0).toNat - 48 : Nat) : Int) := by rw [IntKind.wrap_u8]; omega
  have e2 : IntKind.i64.wrap (10 * ((digN (d.take i) : Nat) : Int)) = ((10 * digN (d.take i) : Nat) : Int) := by rw [w64 (by omega) (by omega)]; omega
  have e3 : IntKind.i64.wrap ((((d.getD i 0).toNat - 48 : Nat) : Int)) = (((d.getD i 0).toNat - 48 : Nat) : Int) := w64 (by omega) (by omega)
  have e4 : IntKind.i64.wrap (((10 * digN (d.take i) : Nat) : Int) + (((d.getD i 0).toNat - 48 : Nat) : Int)) = ((digN (d.take (i + 1)) : Nat) : Int) := by rw [w64 (by omega) (by omega)]; omega
  refine Zd ?_
  simp only [go_sem, seval]
  apply hK2
  clear hK2 K2
  refine Zb fun K3 hK3 => ?_
  refine Zj ?_
  refine Zl zs [1, 4, 5, 6, 7] fun K Y => ?_
  simp only [go_sem, seval]
  repeat refine peel ?_
  apply Y; clear Y K
  simp only [go_sem, seval]
  apply hK3
  clear hK3 K3
  refine Zl zs [1, 4, 5, 6, 7] fun K Y => ?_
  simp only [go_sem, seval]
  apply Y; clear Y K
  simp only [go_sem, seval]
  refine ⟨⟨i + 1, by omega, by omega, ?_⟩, by rw [w1 (by omega)]; simp; omega⟩
  rw [Int.toNat_natCast, e1, e2, e3, e4, w1 (by omega)]
 have htk : d.take i = d.take 14 := by
   have hb0 : ¬ (i < d.length ∧ i < 14) := (by intro hc; have : ((i : Int) < 14) := (by omega); simp [hc.1, this] at hb)
   by_cases h14 : i = 14
   ·rw [h14]
   ·rw [List.take_of_length_le (by omega), List.take_of_length_le (by omega)]
 have hbad : (bif decide (1099511627776 < ((digN (d.take i) : Nat) : Int)) then true else bif decide (1 < (d.length : Int)) then (((d.getD 0 0).toNat : Nat) : Int) == 48 else false) = decide (1099511627776 < digN (d.take 14) ∨ (1 < d.length ∧ d.getD 0 0 = 48)) := by
   rw [htk]
   have q1 : decide (1099511627776 < ((digN (d.take 14) : Nat) : Int)) = decide (1099511627776 < digN (d.take 14)) := decide_eq_decide.2 (by omega)
   have q2 : decide (1 < (d.length : Int)) = decide (1 < d.length) := decide_eq_decide.2 (by omega)
   have q3 : ((((d.getD 0 0).toNat : Nat) : Int) == 48) = decide (d.getD 0 0 = 48) := by rw [Bool.eq_iff_iff, beq_iff_eq, decide_eq_true_eq]; constructor; (intro hh; exact UInt8.toNat_inj.1 (by show _ = 48; omega)); (intro hh; rw [hh]; rfl)
   rw [q1, q2, q3]
   by_cases c1 : 1099511627776 < digN (d.take 14) <;> by_cases c2 : 1 < d.length <;> simp [c1, c2]
 refine ZA ?_
 simp only [go_sem, seval]
 apply hK1
 refine Zb fun K4 hK4 => ?_
 refine Za zs [1, 4, 5, 6, 53] fun K Y => ?_
 simp only [go_sem, seval]
 repeat (first | refine peel ?_ | refine ⟨by (intro hx; simp at hx; omega), ?_⟩)
 apply Y; clear Y K
 refine Ze ?_ ?_ <;> intro hb
 ·have hbad1 : (1099511627776 < digN (d.take 14) ∨ (1 < d.length ∧ d.getD 0 0 = 48)) := of_decide_eq_true (hbad ▸ hb)
  refine Zl zs [1, 4, 5, 6] fun K Y => ?_
  simp only [go_sem, seval]
  refine Zi (args' := [.int .i64 p]) func163 rfl rfl rfl (Yq p _ _) ?_ ?_
  ·rintro rr H' n' ⟨rfl, rfl, h1⟩
   cases h1
  rintro q H' n' ⟨rfl, rfl, h1⟩
  cases h1
  refine QdE.err ?_ (by omega) ?_
  ·rw [hr, if_pos hbad1]
  ·intro k e1 e2 e3; rw [ME _ _ e2, ME _ _ (by omega)]
 have hbad1 : ¬ (1099511627776 < digN (d.take 14) ∨ (1 < d.length ∧ d.getD 0 0 = 48)) := of_decide_eq_false (hbad ▸ hb)
 refine Zd ?_
 simp only [go_sem, seval]
 apply hK4
 clear hK4 K4
 refine Za zs [4] fun K Y => ?_
 simp only [go_sem, seval, hnk]
 repeat refine peel ?_
 apply Y; clear Y K
 refine Zf ?_
 simp only [go_sem, seval]
 rw [if_neg hbad1] at hr
 refine QdE.val hr (by rw [ME _ _ hkn, MG]; rfl) (.kl (Jq fs t _ hko)) ?_ ?_ ?_
 ·rw [ME _ _ (by omega), ME _ _ hne.symm, ME _ _ (by omega)]; exact h.o
 ·intro k e1 e2 e3; rw [ME _ _ (by omega), ME _ _ e2, ME _ _ (by omega)]
 ·rw [htk]; exact .agg (.cons (.kl trivial) (.cons (.kl trivial) (.cons (.kl trivial) (.cons (.kl trivial) (.cons .nilsl .nil)))))
structure StrS (H : Heap) (n p : Nat) (s x : List UInt8) (v2 v3 : Nat) (H' : Heap) : Prop where
 r : H' n = some (.arr 0 5 [.agg [.int .i64 0, .int .i64 0, .str [], .int .i64 0, .nilsl]])
 w : H' (n + 1) = some (.arr 0 5 [.agg [.int .i64 3, .int .i64 p, .str [], .int .i64 0, .osl (n + 3) v3 0 s.length]])
 x : H' (n + 2) = some (.arr v2 1 (x.map Zn))
 s : H' (n + 3) = some (.arr v3 1 (s.map Zn))
 low : ∀ k, k < n → H' k = H k
theorem hexV_none {c : UInt8} (h : hexI c < 0) : hexV c = none := by
 unfold hexI at h
 cases e : hexV c with
 | none => rfl
 | some x => rw [e] at h; simp only at h; omega
theorem hexI_some {c : UInt8} (h : 0 ≤ hexI c) : ∃ a, hexV c = some a ∧ hexI c = ((a : Nat) : Int) := by
 unfold hexI at h ⊢
 cases e : hexV c with
 | none => rw [e] at h; exact absurd h (by decide)
 | some x => exact ⟨x, rfl, rfl⟩
theorem and15 (c : UInt8) : intBits .and .u8 (c.toNat : Int) 15 = ((c.toNat % 16 : Nat) : Int) := by
 have key : ∀ r : Fin 256, intBits .and .u8 ((r.1 : Nat) : Int) 15 = ((r.1 % 16 : Nat) : Int) := by decide +kernel
 exact key ⟨c.toNat, c.toNat_lt⟩
theorem shr4 (c : UInt8) : ((c.toNat : Nat) : Int).fdiv (2 ^ min 4 8) = ((c.toNat / 16 : Nat) : Int) := by
 rw [show (2 : Int) ^ (min 4 8) = 16 by decide, Int.fdiv_eq_ediv_of_nonneg _ (by decide)]
 omega
theorem or_hex {a b : Nat} (ha : a < 16) (hb : b < 16) : IntKind.u8.wrap (intBits .or .i64 (IntKind.i64.wrap ((a : Int) * 2 ^ (min 4 64))) (b : Int)) = ((UInt8.ofNat (16 * a + b)).toNat : Int) := by
 have key : ∀ (x y : Fin 16), IntKind.u8.wrap (intBits .or .i64 (IntKind.i64.wrap (((x.1 : Nat) : Int) * 2 ^ (min 4 64))) ((y.1 : Nat) : Int)) = ((UInt8.ofNat (16 * x.1 + y.1)).toNat : Int) := by decide +kernel
 exact key ⟨a, ha⟩ ⟨b, hb⟩
theorem hexC_getD {a : Nat} (ha : a < 16) : ([48, 49, 50, 51, 52, 53, 54, 55, 56, 57, 97, 98, 99, 100, 101, 102] : List UInt8).getD a 0 = hexC a := by
 have key : ∀ (x : Fin 16), ([48, 49, 50, 51, 52, 53, 54, 55, 56, 57, 97, 98, 99, 100, 101, 102] : List UInt8).getD x.1 0 = hexC x.1 := by decide +kernel
 exact key ⟨a, ha⟩
theorem StrS.step {H H2 : Heap} {n p : Nat} {s x : List UInt8} {v2 v3 : Nat} (h : StrS H n p s x v2 v3 H2) (c : UInt8) (ys : List UInt8) {zs : List AV} (hz : zs = ys.map Zn) :
   StrS H n p (s ++ [c]) (x ++ ys) (v2 + 1) (v3 + 1) (((H2.put (n + 3) (some (.arr (v3 + 1) 1 (s.map Zn ++ [.int .u8 c.toNat])))).put (n + 1) (some (.arr 0 5 [.agg [.int .i64 3, .int .i64 p, .str [], .int .i64 0, .osl (n + 3) (v3 + 1) 0 (s.length + 1)]]))).put (n + 2) (some (.arr (v2 + 1) 1 (x.map Zn ++ zs)))) where
 r := by rw [ME _ _ (by omega), ME _ _ (by omega), ME _ _ (by omega)]; exact h.r
 w := by rw [ME _ _ (by omega), MG, List.length_append]; rfl
 x := by rw [MG, List.map_append, hz]
 s := by rw [ME _ _ (by omega), ME _ _ (by omega), MG, List.map_append]; rfl
 low := fun k hk => by rw [ME _ _ (by omega), ME _ _ (by omega), ME _ _ (by omega)]; exact h.low k hk
set_option maxHeartbeats 1600000 in
theorem c_query_str (fs : List Fml) (t : List UInt8) (s : Qst) (kr ko ver : Nat) (ht : t.length ≤ 512) (p : Nat) (hp : p < t.length) (H : Heap) (n : Nat) (h : QdH fs t kr ko s ver H n) :
   Zx prog 183 [.loc kr 0 0 0 [], .int .i64 p] H n (QdK fs t kr ko H n (match strF t p with | some x => .ok (wdAV x.1, { s with far := x.2 }) | none => .error p)) := by
 have hR := h.r
 have hR1 := hR
 unfold qdO at hR1
 have hk := h.lr
 have hko := h.lo
 have hne := h.ne
 have hszs : (Zt fs).sz = 1 := rfl
 have hszb : ∀ b, (bys b).sz = 1 := fun _ => rfl
 obtain ⟨r, hr⟩ : ∃ r, r = (match strF t p with | some x => .ok (wdAV x.1, { s with far := x.2 }) | none => .error p : Except Nat (AV × Qst)) := ⟨_, rfl⟩
 rw [← hr]
 unfold strF at hr
 generalize hG : strG (t.length + 1) (t.drop (p + 1)) (p + 1) [] [34] = G at hr
 have e0 : IntKind.i64.wrap ((p : Int) + 1) = ((p + 1 : Nat) : Int) := by rw [w64 (by omega) (by omega)]; omega
 have hS0 := hszs
 have hS1 := hszs
 have hS2 := hszs
 have hS3 := hszs
 have hx := hszs
 have f1 : (n = n + 1) = False := by simp
 have f2 : (n = n + 2) = False := by simp
 have f3 : (n = n + 3) = False := by simp
 have f4 : (n + 1 = n) = False := by simp
 have f5 : (n + 1 = n + 2) = False := by simp
 have f6 : (n + 1 = n + 3) = False := by simp
 have f7 : (n + 2 = n) = False := by simp
 have f8 : (n + 2 = n + 1) = False := by simp
 have f9 : (n + 2 = n + 3) = False := by simp
 have g1 : (n + 3 = n) = False := by simp
 have g2 : (n + 3 = n + 1) = False := by simp
 have g3 : (n + 3 = n + 2) = False := by simp
 have g4 : (n = kr) = False := by simp; omega
 have g5 : (n + 1 = kr) = False := by simp; omega
 have g6 : (n + 2 = kr) = False := by simp; omega
 have g7 : (n + 3 = kr) = False := by simp; omega
 have g8 : (kr = n) = False := by simp; omega
 have g9 : (kr = n + 1) = False := by simp; omega
 refine QdK.fin hk hko hne ?_
 refine Zc func183 rfl ntmps183 (congrArg Array.toList results183) (by simp) ?_
 simp only [go_sem]
 refine Za zs [0, 1, 4] fun K Y => ?_
 simp only [go_sem, seval]
 apply Y; clear Y K
 refine Za zs [0, 1, 4, 5] fun K Y => ?_
 simp only [go_sem, seval]
 repeat refine peel ?_
 apply Y; clear Y K
 refine Za zo [0, 1, 4, 5, 6] fun K Y => ?_
 simp only [go_sem, seval]
 repeat refine peel ?_
 apply Y; clear Y K
 refine Zb fun K1 hK1 => ?_
 refine Za zs [0, 1, 4, 5, 6, 7] fun K Y => ?_
 simp only [go_sem, seval, e0]
 apply Y; clear Y K
 refine Zj ?_
 refine Xk (n + 1) 1 (ver := 0) (e := 5) (els := [.agg [.int .i64 3, .int .i64 p, .str [], .int .i64 0, .nilsl]]) (els' := [.agg [.int .i64 3, .int .i64 p, .str [], .int .i64 0, .osl (n + 3) 0 0 0]]) (by simp [Heap.put]) ⟨Adp.agg ⟨.refl _ _, .refl _ _, .refl _ _, .refl _ _, Adp.nilsl _, trivial⟩, trivial⟩ ?_
 refine Zz (fun T' H' n' => ∃ (i f : Nat) (s x : List UInt8) (v2 v3 : Nat), p < i ∧ i ≤ t.length ∧ t.length + p + 2 ≤ f + i ∧ strG f (t.drop i) i s x = G ∧ s.length ≤ i ∧ x.length ≤ 3 * i + 1 ∧ T' = tl [(0, .loc kr 0 0 0 []), (1, .int .i64 p), (4, .loc n 0 0 0 []), (5, .loc (n + 1) 0 0 0 []), (6, .osl (n + 2) v2 0 x.length), (7, .int .i64 i)] ∧ StrS H n p s x v2 v3 H' ∧ n' = n + 4) (fun T' _ _ => t.length - iv (T' 7)) ?_ ?_
 ·exact ⟨p + 1, t.length + 1, [], [34], 0, 0, by omega, by omega, by omega, hG, by simp, by simp, rfl, ⟨by simp [Heap.put]; omega, by simp [Heap.put], by simp [Heap.put, Zn], by simp [Heap.put], fun k hk => by simp only [MF]; (repeat rw [if_neg (by omega)])⟩, by omega⟩
 intro T1 H1 n1
 rintro ⟨i, f, s1, x1, v2, v3, hpi, hit, hfi, hgi, hsl, hxl, rfl, hS, rfl⟩
 obtain ⟨f, rfl⟩ : ∃ g, f = g + 1 := ⟨f - 1, by omega⟩
 have hR1 := (hS.low kr hk).trans hR1
 have hS1 := hS.w
 have hS2 := hS.x
 have hS3 := hS.s
 have hS0 := hS.r
 refine Zb fun K2 hK2 => ?_
 refine Za zs [0, 1, 4, 5, 6, 7, 20] fun K Y => ?_
 simp only [go_sem, seval, hR1, wdAV, Int.toNat_natCast]
 apply Y; clear Y K
 refine Ze ?_ ?_ <;> intro hb
 ·have hlt : i < t.length := by have := of_decide_eq_true hb; omega
  have hx : IntKind.i64.wrap ((i : Int) + 1) = ((i + 1 : Nat) : Int) := w1 (by omega)
  obtain ⟨c, hc⟩ : ∃ c, c = t.getD i 0 := ⟨_, rfl⟩
  have hcl := c.toNat_lt
  have e34 : List.take x1.length (List.map Zn x1) = List.map Zn x1 := List.take_of_length_le (by simp)
  have e35 : List.take (x1.length + 1) (List.map Zn x1 ++ [AV.int .u8 34]) = List.map Zn (x1 ++ [34]) := by rw [List.take_of_length_le (by simp)]; simp [Zn]
  refine Zd ?_
  simp only [go_sem, seval, Int.toNat_natCast]
  apply hK2
  clear hK2 K2
  refine Yi [0, 1, 4, 5, 6, 7] (fun T' H' n' => ∃ (i' f' : Nat) (s' x' : List UInt8) (v2' v3' : Nat), i ≤ i' ∧ i' < t.length ∧ t.length + p + 2 ≤ f' + i' + 1 ∧ strG f' (t.drop (i' + 1)) (i' + 1) s' x' = G ∧ s'.length ≤ i' + 1 ∧ x'.length ≤ 3 * (i' + 1) + 1 ∧ T' = tl [(0, .loc kr 0 0 0 []), (1, .int .i64 p), (4, .loc n 0 0 0 []), (5, .loc (n + 1) 0 0 0 []), (6, .osl (n + 2) v2' 0 x'.length), (7, .int .i64 i')] ∧ StrS H n p s' x' v2' v3' H' ∧ n' = n + 4) ?_ ?_
  ·refine Zj ?_
   refine Za zs [0, 1, 4, 5, 6, 7, 8] fun K Y => ?_
   simp only [go_sem, seval, hR1, wdAV, Int.toNat_natCast, ← hc]
   repeat refine peel ?_
   apply Y; clear Y K
   refine Yi [0, 1, 4, 5, 6, 7, 8] (fun T' H' n' => ∃ (i' f' : Nat) (c' : UInt8), i ≤ i' ∧ i' < t.length ∧ t.length + p + 2 ≤ f' + i' + 1 ∧ strG f' (t.drop (i' + 1)) (i' + 1) (s1 ++ [c']) (x1 ++ Xz c') = G ∧ T' = tl [(0, .loc kr 0 0 0 []), (1, .int .i64 p), (4, .loc n 0 0 0 []), (5, .loc (n + 1) 0 0 0 []), (6, .osl (n + 2) v2 0 x1.length), (7, .int .i64 i'), (8, Zn c')] ∧ H' = H1 ∧ n' = n + 4) ?_ ?_
   ·refine Zj ?_
    refine Za zs [0, 1, 4, 5, 6, 7, 8, 29] fun K Y => ?_
    simp only [go_sem, seval, Int.toNat_natCast]
    apply Y; clear Y K
    refine Ze ?_ ?_ <;> intro hb
    ·have k0 : (t.getD i 0).toNat = 34 := by rw [← hc]; have h9 := hb; simp at h9; omega
     refine Za zs [4, 5, 6] fun K Y => ?_
     simp only [go_sem, seval, hR1, wdAV, hx, Int.toNat_natCast]
     apply Y; clear Y K
     refine Za zs [4, 5] fun K Y => ?_
     simp only [go_sem, seval, hS1, hS2, List.length_map, f5, g5, g6, Int.toNat_natCast, e34, e35, Y0]
     repeat (first | refine peel ?_ | (refine And.intro ?_ ?_; · first | exact ⟨by omega, .inr trivial, by omega, by omega⟩ | exact ⟨by simp, Y4 _⟩))
     apply Y; clear Y K
     refine Za zs [4] fun K Y => ?_
     simp only [go_sem, seval, hS0, f1, f2, g4, Int.toNat_natCast]
     apply Y; clear Y K
     refine Zf ?_
     simp only [go_sem, seval, Int.toNat_natCast]
     rw [strG_quote hlt k0] at hgi
     rw [← hgi] at hr
     refine QdE.val (s := { s with far := i + 1 }) (ver := ver) hr (by rw [ME _ _ (by omega), ME _ _ (by omega), ME _ _ (by omega), MG]; rfl) (.kl (Jq fs t _ hko)) ?_ ?_ ?_
     ·rw [ME _ _ (by omega), ME _ _ (by omega), ME _ _ (by omega), ME _ _ hne.symm, hS.low ko hko]; exact h.o
     ·intro k e1 e2 e3; rw [ME _ _ (by omega), ME _ _ (by omega), ME _ _ (by omega), ME _ _ e2, hS.low k e1]
     ·exact .agg (.cons (.kl trivial) (.cons (.kl trivial) (.cons (.kl trivial) (.cons (.kl trivial) (.cons (.osl (els := s1.map Zn) (ver := v3) (by rw [ME _ _ (by omega), ME _ _ (by omega), ME _ _ (by omega), ME _ _ (by omega)]; exact hS.s) (by omega) (by simp) (by rw [List.drop_zero, List.take_of_length_le (by simp)]; exact YA _ (ZJ _ _))) .nil)))))
    have k0 : ¬ (t.getD i 0).toNat = 34 := by rw [← hc]; have h9 := hb; simp at h9; omega
    refine Za zs [0, 1, 4, 5, 6, 7, 8, 43] fun K Y => ?_
    simp only [go_sem, seval, Int.toNat_natCast]
    repeat refine peel ?_
    apply Y; clear Y K
    refine Ze ?_ ?_ <;> intro hb
    ·have k1 : (t.getD i 0).toNat < 32 ∨ 126 < (t.getD i 0).toNat := by rw [← hc]; have h9 := hb; simp at h9; omega
     refine Zl zs [0, 1, 4, 5, 6, 7, 8] fun K Y => ?_
     simp only [go_sem, seval, Int.toNat_natCast]
     refine Zi (args' := [.int .i64 p]) func163 rfl rfl rfl (Yq p _ _) ?_ ?_
     ·rintro rr H' n' ⟨rfl, rfl, h1⟩
      cases h1
     rintro q H' n' ⟨rfl, rfl, h1⟩
     cases h1
     refine QdE.err ?_ (by omega) (fun k e1 e2 e3 => hS.low k e1)
     rw [hr, ← hgi, strG_bad hlt k0 k1]; rfl
    have k1 : ¬ ((t.getD i 0).toNat < 32 ∨ 126 < (t.getD i 0).toNat) := by rw [← hc]; have h9 := hb; simp at h9; omega
    refine Za zs [0, 1, 4, 5, 6, 7, 8, 52] fun K Y => ?_
    simp only [go_sem, seval, Int.toNat_natCast]
    apply Y; clear Y K
    refine Ze ?_ ?_ <;> intro hb
    ·have k2 : (t.getD i 0).toNat = 92 := by rw [← hc]; have h9 := hb; simp at h9; omega
     refine Za zs [0, 1, 4, 5, 6, 7] fun K Y => ?_
     simp only [go_sem, seval, hx, Int.toNat_natCast]
     apply Y; clear Y K
     refine Zb fun K3 hK3 => ?_
     refine Za zs [0, 1, 4, 5, 6, 7, 63] fun K Y => ?_
     simp only [go_sem, seval, hR1, wdAV, Int.toNat_natCast]
     apply Y; clear Y K
     refine Ze ?_ ?_ <;> intro hb
     ·have k3 : t.length ≤ i + 1 := by have h9 := hb; simp at h9; omega
      refine Zl zs [0, 1, 4, 5, 6, 7] fun K Y => ?_
      simp only [go_sem, seval, Int.toNat_natCast]
      refine Zi (args' := [.int .i64 p]) func163 rfl rfl rfl (Yq p _ _) ?_ ?_
      ·rintro rr H' n' ⟨rfl, rfl, h1⟩
       cases h1
      rintro q H' n' ⟨rfl, rfl, h1⟩
      cases h1
      refine QdE.err ?_ (by omega) (fun k e1 e2 e3 => hS.low k e1)
      rw [hr, ← hgi, strG_esc0 hlt k2 k3]; rfl
     have k3 : i + 1 < t.length := by have h9 := hb; simp at h9; omega
     have hx := w1 (i := i + 1) (by omega)
     obtain ⟨d, hd⟩ : ∃ d, d = t.getD (i + 1) 0 := ⟨_, rfl⟩
     have hdl := d.toNat_lt
     refine Zd ?_
     simp only [go_sem, seval, Int.toNat_natCast]
     apply hK3
     clear hK3 K3
     refine Za zs [0, 1, 4, 5, 6, 7, 8] fun K Y => ?_
     simp only [go_sem, seval, hR1, wdAV, Int.toNat_natCast, ← hd]
     repeat refine peel ?_
     apply Y; clear Y K
     refine Za zs [0, 1, 4, 5, 6, 7, 8, 77] fun K Y => ?_
     simp only [go_sem, seval, Int.toNat_natCast]
     repeat refine peel ?_
     apply Y; clear Y K
     refine Ze ?_ ?_ <;> intro hb
     ·have k4 : ¬ ((t.getD (i + 1) 0).toNat = 34 ∨ (t.getD (i + 1) 0).toNat = 92) := by rw [← hd]; have h9 := hb; simp at h9; omega
      refine Zb fun K4 hK4 => ?_
      refine Za zs [0, 1, 4, 5, 6, 7, 8, 101] fun K Y => ?_
      simp only [go_sem, seval, hR1, wdAV, hx, Int.toNat_natCast]
      refine Zv func196 rfl rfl rfl (fun _ => (VW d _ _)) ?_
      simp only [go_sem, seval, hR1, wdAV, hx, Int.toNat_natCast]
      repeat (first | refine peel ?_ | refine ⟨by (intro hx9; rcases Nat.lt_or_ge (i + 2) t.length with q | q; exact ⟨by omega, by omega⟩; rw [decide_eq_true (by omega)] at hx9; cases hx9), ?_⟩)
      refine Zv func196 rfl rfl rfl (fun _ => (VW (t.getD (i + 2) 0) _ _)) ?_
      simp only [go_sem, seval]
      repeat refine peel ?_
      apply Y; clear Y K
      refine Ze ?_ ?_ <;> intro hb
      ·have k5 : strG (f + 1) (t.drop i) i s1 x1 = none := by
         rcases Nat.lt_or_ge (i + 2) t.length with q | q
         ·rw [decide_eq_false (by omega)] at hb
          refine strG_esc3 q k2 k4 ?_
          by_cases hd0 : hexI d < 0
          ·left; rw [← hd]; exact hexV_none hd0
          ·right; rw [decide_eq_false hd0] at hb; exact hexV_none (of_decide_eq_true hb)
         ·exact strG_esc2 k3 k2 k4 q
       refine Zl zs [0, 1, 4, 5, 6, 7, 8] fun K Y => ?_
       simp only [go_sem, seval, Int.toNat_natCast]
       refine Zi (args' := [.int .i64 p]) func163 rfl rfl rfl (Yq p _ _) ?_ ?_
       ·rintro rr H' n' ⟨rfl, rfl, h1⟩
        cases h1
       rintro q H' n' ⟨rfl, rfl, h1⟩
       cases h1
       refine QdE.err ?_ (by omega) (fun k e1 e2 e3 => hS.low k e1)
       rw [hr, ← hgi, k5]; rfl
      have k7 : i + 2 < t.length := by rcases Nat.lt_or_ge (i + 2) t.length with q | q; exact q; rw [decide_eq_true (by omega)] at hb; cases hb
      rw [decide_eq_false (by omega)] at hb
      obtain ⟨a, ha, ha2⟩ : ∃ a, hexV d = some a ∧ hexI d = ((a : Nat) : Int) := hexI_some (by by_cases q : hexI d < 0; (rw [decide_eq_true q] at hb; cases hb); omega)
      obtain ⟨b, hb2, hb3⟩ : ∃ b, hexV (t.getD (i + 2) 0) = some b ∧ hexI (t.getD (i + 2) 0) = ((b : Nat) : Int) := hexI_some (by by_cases q : hexI (t.getD (i + 2) 0) < 0; (rw [decide_eq_true q] at hb; cases h : decide (hexI d < 0) <;> rw [h] at hb <;> cases hb); omega)
      have hal := hexV_lt ha
      have hbl := hexV_lt hb2
      refine Zd ?_
      simp only [go_sem, seval, Int.toNat_natCast]
      apply hK4
      clear hK4 K4
      refine YJ rfl zs [0, 1, 4, 5, 6, 7, 8] [.m, .c, .q, .m, .q, .q, .q, .m, .q, .q, .c, .q, .q, .q] (by kernel_rfl) (fun _ _ _ _ _ h => h) fun K Y => ?_
      simp only [go_sem, seval, hR1, wdAV, hx, Int.toNat_natCast, ha2, hb3]
      refine ZR func196 rfl rfl rfl (fun _ n => (VW d _ _)) ?_
      simp only [go_sem, seval, ha2]
      repeat refine peel ?_
      refine ZR func196 rfl rfl rfl (fun _ n => (VW (t.getD (i + 2) 0) _ _)) ?_
      simp only [go_sem, seval, hb3]
      apply Y; clear Y K
      refine Zl zs [0, 1, 4, 5, 6, 7, 8] fun K Y => ?_
      simp only [go_sem, seval, hx, Int.toNat_natCast]
      apply Y; clear Y K
      simp only [go_sem, seval, Int.toNat_natCast]
      exact ⟨i + 2, f, UInt8.ofNat (16 * a + b), by omega, k7, by omega, by rw [← strG_esc4 k7 k2 k4 (hd ▸ ha) hb2]; exact hgi, by rw [or_hex hal hbl]⟩
     have k4 : (t.getD (i + 1) 0).toNat = 34 ∨ (t.getD (i + 1) 0).toNat = 92 := by rw [← hd]; have h9 := hb; simp at h9; omega
     refine Zd ?_
     simp only [go_sem, seval, Int.toNat_natCast]
     exact ⟨i + 1, f, d, by omega, k3, by omega, by rw [hd, ← strG_esc1 k3 k2 k4]; exact hgi, rfl⟩
    have k2 : ¬ (t.getD i 0).toNat = 92 := by rw [← hc]; have h9 := hb; simp at h9; omega
    refine Zd ?_
    simp only [go_sem, seval, Int.toNat_natCast]
    exact ⟨i, f, c, by omega, hlt, by omega, by rw [hc, ← strG_plain hlt k0 k1 k2]; exact hgi, rfl⟩
   rintro T2 H2 n2 ⟨i', f', c', q1, q2, q3, q4, rfl, rfl, rfl⟩
   have m1 : ((c'.toNat : Nat) : Int).fdiv (2 ^ min 4 8) = ((c'.toNat / 16 : Nat) : Int) := shr4 c'
   have m2 := and15 c'
   have hcl' := c'.toNat_lt
   have e36 : List.take s1.length (List.map Zn s1) = List.map Zn s1 := List.take_of_length_le (by simp)
   refine Za zs [0, 1, 4, 5, 6, 7, 8] fun K Y => ?_
   simp only [go_sem, seval, hS1, hS3, List.length_map, f6, Int.toNat_natCast, e36]
   repeat (first | refine peel ?_ | (refine And.intro ?_ ?_; · first | exact ⟨rfl, by simp [AV.sz, AV.memOK]⟩ | exact ⟨by omega, .inr trivial, by omega, by omega⟩))
   apply Y; clear Y K
   refine Zj ?_
   refine Za zs [0, 1, 4, 5, 6, 7, 8, 129] fun K Y => ?_
   simp only [go_sem, seval, Int.toNat_natCast]
   repeat refine peel ?_
   apply Y; clear Y K
   refine Ze ?_ ?_ <;> intro hb
   ·have hq : Xz c' = [92, c'] := by unfold Xz; rw [if_pos]; have h9 := hb; simp at h9; omega
    refine Zl zs [0, 1, 4, 5, 6, 7] fun K Y => ?_
    simp only [go_sem, seval, hS2, List.length_map, f8, f9, Int.toNat_natCast, e34]
    repeat (first | refine peel ?_ | (refine And.intro ?_ ?_; · first | exact ⟨rfl, by simp [AV.sz, AV.memOK]⟩ | exact ⟨by omega, .inr trivial, by omega, by omega⟩))
    apply Y; clear Y K
    simp only [go_sem, seval, Int.toNat_natCast]
    refine ⟨i', f', s1 ++ [c'], x1 ++ Xz c', v2 + 1, v3 + 1, q1, q2, by omega, q4, by simp; omega, by have := WH c'; simp; omega, by rw [hq, List.length_append]; rfl, ?_⟩
    rw [hq]
    exact hS.step c' _ rfl
   have k8 : ¬ (c'.toNat = 34 ∨ c'.toNat = 92) := by have h9 := hb; simp at h9; omega
   refine Za zs [0, 1, 4, 5, 6, 7, 8, 140] fun K Y => ?_
   simp only [go_sem, seval, Int.toNat_natCast]
   repeat refine peel ?_
   apply Y; clear Y K
   refine Ze ?_ ?_ <;> intro hb
   ·have hq : Xz c' = [92, hexC (c'.toNat / 16), hexC (c'.toNat % 16)] := by unfold Xz; rw [if_neg k8, if_pos]; have h9 := hb; simp at h9; omega
    refine Ms rfl zs [0, 1, 4, 5, 6, 7] [.m, .m, .q, .q, .m, .q, .q, .q, .w [], .q] (by kernel_rfl) (fun _ _ _ _ _ h => h) fun K Y => ?_
    simp only [go_sem, seval, hS2, List.length_map, f8, f9, Int.toNat_natCast, e34, m1, m2]
    repeat (first | refine peel ?_ | (refine And.intro ?_ ?_; · first | exact ⟨rfl, by simp [AV.sz, AV.memOK]⟩ | exact ⟨by omega, .inr trivial, by omega, by omega⟩))
    apply Y; clear Y K
    simp only [go_sem, seval, Int.toNat_natCast]
    refine ⟨i', f', s1 ++ [c'], x1 ++ Xz c', v2 + 1, v3 + 1, q1, q2, by omega, q4, by simp; omega, by have := WH c'; simp; omega, by rw [hq, List.length_append]; rfl, ?_⟩
    rw [hq]
    (rw [hexC_getD (by omega), hexC_getD (by omega)]; exact hS.step c' _ rfl)
   have hq : Xz c' = [c'] := by unfold Xz; rw [if_neg k8, if_neg]; have h9 := hb; simp at h9; omega
   refine Zl zs [0, 1, 4, 5, 6, 7] fun K Y => ?_
   simp only [go_sem, seval, hS2, List.length_map, f8, f9, Int.toNat_natCast, e34]
   repeat (first | refine peel ?_ | (refine And.intro ?_ ?_; · first | exact ⟨rfl, by simp [AV.sz, AV.memOK]⟩ | exact ⟨by omega, .inr trivial, by omega, by omega⟩))
   apply Y; clear Y K
   simp only [go_sem, seval, Int.toNat_natCast]
   refine ⟨i', f', s1 ++ [c'], x1 ++ Xz c', v2 + 1, v3 + 1, q1, q2, by omega, q4, by simp; omega, by have := WH c'; simp; omega, by rw [hq, List.length_append]; rfl, ?_⟩
   rw [hq]
   exact hS.step c' _ rfl
  rintro T2 H2 n2 ⟨i', f', s', x', v2', v3', q1, q2, q3, q4, q5, q6, rfl, q7, rfl⟩
  have hx : IntKind.i64.wrap ((i' : Int) + 1) = ((i' + 1 : Nat) : Int) := w1 (by omega)
  refine Zl zs [0, 1, 4, 5, 6, 7] fun K Y => ?_
  simp only [go_sem, seval, hx, Int.toNat_natCast]
  apply Y; clear Y K
  simp only [go_sem, seval, Int.toNat_natCast]
  exact ⟨⟨i' + 1, f', s', x', v2', v3', by omega, by omega, by omega, q4, q5, q6, rfl, q7⟩, by first | omega | (simp; omega)⟩
 have hge : t.length ≤ i := by have := of_decide_eq_false hb; omega
 refine ZA ?_
 simp only [go_sem, seval, Int.toNat_natCast]
 apply hK1
 refine Za zs [4, 5] fun K Y => ?_
 simp only [go_sem, seval]
 refine Zi (args' := [.int .i64 p]) func163 rfl rfl rfl (Yq p _ _) ?_ ?_
 ·rintro rr H' n' ⟨rfl, rfl, h1⟩
  cases h1
 rintro q H' n' ⟨rfl, rfl, h1⟩
 cases h1
 refine QdE.err ?_ (by omega) (fun k e1 e2 e3 => hS.low k e1)
 rw [hr, ← hgi, strG_end hge]; rfl
theorem Mi (a b : List UInt8) (hb : b.length ≤ 1099511627776) (H : Heap) (n : Nat) : Ret prog 197 [.str a, .str b] H n (.bool (b.isPrefixOf a)) H n := by
 refine Zc func197 rfl ntmps197 (congrArg Array.toList results197) (by simp) ?_
 simp only [go_sem]
 refine Za zs [0, 1] fun K Y => ?_
 simp only [go_sem, seval]
 apply Y; clear Y K
 refine Za zs [4] fun K Y => ?_
 simp only [go_sem, seval, Int.toNat_natCast, Option.getD_some, Option.getD_none, List.drop_zero]
 repeat refine peel ?_
 apply Y; clear Y K
 refine Zf ?_
 simp only [go_sem, seval]
 refine congrArg (fun b => ARes.val (AV.bool b)) ?_
 rw [Bool.eq_iff_iff, List.isPrefixOf_iff_prefix, List.prefix_iff_eq_take]
 by_cases h : b.length ≤ a.length
 ·rw [decide_eq_true (by omega)]; simp; exact eq_comm
 ·rw [decide_eq_false (by omega)]; simp; intro e; have := congrArg List.length e; simp at this; omega
theorem QA (a b : List UInt8) (hb : b.length ≤ 1099511627776) (H : Heap) (n : Nat) : Ret prog 184 [.str a, .str b] H n (.bool (b.isPrefixOf a)) H n := by
 refine Zc func184 rfl ntmps184 (congrArg Array.toList results184) (by simp) ?_
 simp only [go_sem]
 refine ZE zs [0, 1] ?_
 refine Za zs [4] fun K Y => ?_
 simp only [go_sem, seval]
 refine Zg func197 rfl rfl rfl ((Mi a b hb _ _)) ?_
 simp only [go_sem, seval]
 apply Y; clear Y K
 refine Zf ?_
 simp only [go_sem, seval]
theorem wordF_end {t : List UInt8} {p q : Nat} (h : Yl (fun c => c.toNat == 32) t p = q) (hq : t.length ≤ q) : Kk t p = .ok (⟨0, q, [], 0, []⟩, q) := by
 unfold Kk
 simp only [h]
 rw [List.drop_eq_nil_of_le hq]
theorem wordF_at {t : List UInt8} {p q : Nat} (h : Yl (fun c => c.toNat == 32) t p = q) (hq : q < t.length) : Kk t p =
   if Le (t.getD q 0) then .ok (⟨1, q, (t.drop q).takeWhile Vi, 0, []⟩, Yl Vi t q)
   else if Yt (t.getD q 0) then (match numF t q with | some x => .ok x | none => .error q)
   else if (t.getD q 0).toNat = 34 then (match strF t q with | some x => .ok x | none => .error q)
   else match Wm.find? (fun s => s.isPrefixOf (t.drop q)) with
     | some s => .ok (⟨4, q, s, 0, []⟩, q + s.length)
     | none => .error q := by
 unfold Kk
 simp only [h]
 rw [drop_at hq] <;> rfl
theorem nth_signs {i : Nat} (h : i < 9) : nth [AV.str [33, 61], AV.str [60, 61], AV.str [62, 61], AV.str [61], AV.str [60], AV.str [62], AV.str [94], AV.str [40], AV.str [41]] i = AV.str (Wm.getD i []) := by
 rcases (by omega : i = 0 ∨ i = 1 ∨ i = 2 ∨ i = 3 ∨ i = 4 ∨ i = 5 ∨ i = 6 ∨ i = 7 ∨ i = 8) with rfl | rfl | rfl | rfl | rfl | rfl | rfl | rfl | rfl <;> rfl
theorem signs_len {i : Nat} (h : i < 9) : (Wm.getD i []).length ≤ 2 := by
 rcases (by omega : i = 0 ∨ i = 1 ∨ i = 2 ∨ i = 3 ∨ i = 4 ∨ i = 5 ∨ i = 6 ∨ i = 7 ∨ i = 8) with rfl | rfl | rfl | rfl | rfl | rfl | rfl | rfl | rfl <;> decide
theorem signs_drop {i : Nat} (h : i < 9) : Wm.drop i = Wm.getD i [] :: Wm.drop (i + 1) := by
 rcases (by omega : i = 0 ∨ i = 1 ∨ i = 2 ∨ i = 3 ∨ i = 4 ∨ i = 5 ∨ i = 6 ∨ i = 7 ∨ i = 8) with rfl | rfl | rfl | rfl | rfl | rfl | rfl | rfl | rfl <;> rfl
theorem frzQ {H : Heap} {n : Nat} (fs : List Fml) (t : List UInt8) (a b c d e : Int) (tx : List UInt8) {ko ver l : Nat} (hk : ko < n) : Frz H n (.agg [Zt fs, .str t, .int .i64 a, .agg [.int .i64 b, .int .i64 c, .str tx, .int .i64 d, .nilsl], .osl ko ver 0 l, .int .i64 e]) (.agg [Zt fs, .str t, .int .i64 a, .agg [.int .i64 b, .int .i64 c, .str tx, .int .i64 d, .sl 1 []], .osl ko ver 0 l, .int .i64 e]) :=
 .agg (.cons (.kl (kl_schQ fs n)) (.cons (.kl trivial) (.cons (.kl trivial) (.cons (.agg (.cons (.kl trivial) (.cons (.kl trivial) (.cons (.kl trivial) (.cons (.kl trivial) (.cons .nilsl .nil)))))) (.cons (.kl hk) (.cons (.kl trivial) .nil))))))
set_option maxHeartbeats 1600000 in
theorem Jz (fs : List Fml) (t : List UInt8) (s : Qst) (kr ko ver : Nat) (ht : t.length ≤ 512) (hf : s.far ≤ t.length) (H : Heap) (n : Nat) (h : QdH fs t kr ko s ver H n) :
   Zx prog 161 [.loc kr 0 0 0 []] H n (QdK fs t kr ko H n ((Jc t s).map fun x => (.tup [], x))) := by
 have hR := h.r
 have hR1 := hR
 unfold qdO at hR1
 have hk := h.lr
 have hko := h.lo
 have hne := h.ne
 have hszs : (Zt fs).sz = 1 := rfl
 have hszb : ∀ b, (bys b).sz = 1 := fun _ => rfl
 have hw2 : Yl (fun c => c.toNat == 32) t s.far ≤ t.length := (Vr (fun c => c.toNat == 32) t s.far hf).2
 obtain ⟨q, hq⟩ : ∃ q, Yl (fun c => c.toNat == 32) t s.far = q := ⟨_, rfl⟩
 rw [hq] at hw2
 obtain ⟨r, hr⟩ : ∃ r, r = ((Jc t s).map fun x => ((.tup [] : AV), x)) := ⟨_, rfl⟩
 rw [← hr]
 unfold Jc at hr
 have hcut := KZ Vi t q
 have hx := hszs
 have fin : ∀ {H1 : Heap} {a : AV} {s2 : Qst} {v2 : Nat}, (∀ k, k ≠ kr → k ≠ ko → H1 k = H k) → H1 ko = some (outO s2 v2) → r = .ok (.tup [], s2) → Frz (H1.put kr (some (.arr 0 10 [a]))) n a (qdAV fs t s2 ko v2) → QdE fs t kr ko H n r (.val (.tup [])) (H1.put kr (some (.arr 0 10 [a]))) n := fun h0 h1 h2 h3 =>
   QdE.val h2 (MG _ _ _) h3 (by rw [ME _ _ hne.symm]; exact h1) (fun k _ e2 e3 => (ME _ _ e2).trans (h0 k e2 e3)) (.tup .nil)
 refine QdK.fin hk hko hne ?_
 refine Zc func161 rfl ntmps161 (congrArg Array.toList results161) (by simp) ?_
 simp only [go_sem]
 refine Za zs [0, 2] fun K Y => ?_
 simp only [go_sem, seval, hR1, wdAV]
 refine Zg func177 rfl rfl rfl ((hq ▸ V8 fs t s kr ko ver ht s.far hf (fun c => c.toNat == 32) _ func178 rfl rfl _ _ (fun b _ _ => c_query_blank b _ _) hR)) ?_
 simp only [go_sem, seval]
 apply Y; clear Y K
 refine Zb fun K1 hK1 => ?_
 refine Za zs [0, 2, 18] fun K Y => ?_
 simp only [go_sem, seval, hR1, wdAV]
 apply Y; clear Y K
 refine Ze ?_ ?_ <;> intro hb
 ·have hge : t.length ≤ q := by have h9 := hb; simp at h9; omega
  rw [wordF_end hq hge] at hr
  refine Za zs [] fun K Y => ?_
  simp only [go_sem, seval, hR1, wdAV]
  repeat refine peel ?_
  apply Y; clear Y K
  refine Zf ?_
  simp only [go_sem, seval]
  exact fin (s2 := { s with far := q, nxt := ⟨0, q, [], 0, []⟩ }) (fun _ _ _ => rfl) h.o hr (frzQ _ _ _ _ _ _ _ _ hko)
 have hlt : q < t.length := by have h9 := hb; simp at h9; omega
 rw [wordF_at hq hlt] at hr
 obtain ⟨c, hc⟩ : ∃ c, c = t.getD q 0 := ⟨_, rfl⟩
 rw [← hc] at hr
 have hcl := c.toNat_lt
 refine Zd ?_
 simp only [go_sem, seval]
 apply hK1
 clear hK1 K1
 refine Za zs [0, 2, 3] fun K Y => ?_
 simp only [go_sem, seval, hR1, wdAV, Int.toNat_natCast, ← hc]
 repeat refine peel ?_
 apply Y; clear Y K
 refine Zj ?_
 refine Za zs [0, 2, 3, 62] fun K Y => ?_
 simp only [go_sem, seval]
 refine Zg func179 rfl rfl rfl ((QH c _ _)) ?_
 simp only [go_sem, seval]
 apply Y; clear Y K
 refine Ze ?_ ?_ <;> intro hb
 ·rw [if_pos hb] at hr
  obtain ⟨u1, u2⟩ := Vr Vi t q (by omega)
  refine Za zs [0, 2] fun K Y => ?_
  simp only [go_sem, seval]
  refine Zg func177 rfl rfl rfl ((V8 fs t s kr ko ver ht q (by omega) Vi _ func180 rfl rfl _ _ (fun b _ _ => c_query_name b _ _) hR)) ?_
  simp only [go_sem, seval, hR1, wdAV]
  apply Y; clear Y K
  refine Ms rfl zs [] [.m, .m, .m, .q, .q, .q, .m, .m, .q, .q, .q, .q, .q, .q, .q, .w []] (by kernel_rfl) (fun _ _ _ _ _ h => h) fun K Y => ?_
  simp only [go_sem, seval, Int.toNat_natCast, Option.getD_some, hcut]
  repeat refine peel ?_
  apply Y; clear Y K
  simp only [go_sem, seval]
  exact fin (s2 := { s with far := Yl Vi t q, nxt := ⟨1, q, (t.drop q).takeWhile Vi, 0, []⟩ }) (fun _ _ _ => rfl) h.o hr (frzQ _ _ _ _ _ _ _ _ hko)
 rw [if_neg (by rw [hb]; simp)] at hr
 refine Za zs [0, 2, 3, 86] fun K Y => ?_
 simp only [go_sem, seval]
 refine Zg func181 rfl rfl rfl ((V9 c _ _)) ?_
 simp only [go_sem, seval]
 apply Y; clear Y K
 refine Ze ?_ ?_ <;> intro hb
 ·rw [if_pos hb] at hr
  refine Zl zs [] fun K Y => ?_
  simp only [go_sem, seval]
  refine Zi (args' := [.loc kr 0 0 0 [], .int .i64 q]) func182 rfl rfl rfl (Mm fs t s kr ko ver ht q (by omega) _ _ h) ?_ ?_
  rotate_left
  ·rintro q9 H' n' hc
   refine hc.up (fun p9 he => ?_) (Nat.le_refl _) (fun _ _ _ _ => rfl)
   cases hn : numF t q with
   | none => rw [hn] at he hr; cases he; exact hr
   | some x => rw [hn] at he; cases he
  rintro rr H1 n1 hc
  obtain ⟨s2, v2, he, h2, rfl, hl⟩ := hc.get h
  have hR1 := h2.r
  have hO2 := h2.o
  unfold qdO at hR1
  obtain ⟨x, hn⟩ : ∃ x, numF t q = some x := by
    cases hn : numF t q with
    | none => rw [hn] at he; cases he
    | some x => exact ⟨x, rfl⟩
  rw [hn] at he hr
  cases he
  simp only [go_sem, seval, hR1, wdAV]
  apply Y; clear Y K
  simp only [go_sem, seval]
  exact fin (s2 := { s with far := x.2, nxt := x.1 }) hl hO2 hr (.kl (Jq fs t { s with far := x.2, nxt := x.1 } (ver := v2) hko))
 rw [if_neg (by rw [hb]; simp)] at hr
 refine Za zs [0, 2, 95] fun K Y => ?_
 simp only [go_sem, seval]
 apply Y; clear Y K
 refine Ze ?_ ?_ <;> intro hb
 ·have k0 : c.toNat = 34 := by have h9 := hb; simp at h9; omega
  rw [if_pos k0] at hr
  refine Zl zs [] fun K Y => ?_
  simp only [go_sem, seval]
  refine Zi (args' := [.loc kr 0 0 0 [], .int .i64 q]) func183 rfl rfl rfl (c_query_str fs t s kr ko ver ht q hlt _ _ h) ?_ ?_
  rotate_left
  ·rintro q9 H' n' hc
   refine hc.up (fun p9 he => ?_) (Nat.le_refl _) (fun _ _ _ _ => rfl)
   cases hn : strF t q with
   | none => rw [hn] at he hr; cases he; exact hr
   | some x => rw [hn] at he; cases he
  rintro rr H1 n1 hc
  obtain ⟨s2, v2, he, h2, rfl, hl⟩ := hc.get h
  have hR1 := h2.r
  have hO2 := h2.o
  unfold qdO at hR1
  obtain ⟨x, hn⟩ : ∃ x, strF t q = some x := by
    cases hn : strF t q with
    | none => rw [hn] at he; cases he
    | some x => exact ⟨x, rfl⟩
  rw [hn] at he hr
  cases he
  simp only [go_sem, seval, hR1, wdAV]
  apply Y; clear Y K
  simp only [go_sem, seval]
  exact fin (s2 := { s with far := x.2, nxt := x.1 }) hl hO2 hr (.kl (Jq fs t { s with far := x.2, nxt := x.1 } (ver := v2) hko))
 have k0 : ¬ c.toNat = 34 := by have h9 := hb; simp at h9; omega
 rw [if_neg k0] at hr
 refine Zb fun K2 hK2 => ?_
 refine Za zs [0, 2, 34, 35] fun K Y => ?_
 simp only [go_sem, seval]
 repeat refine peel ?_
 apply Y; clear Y K
 refine Zj ?_
 refine Zz (fun T' H' n' => ∃ i : Nat, i ≤ 9 ∧ Wm.find? (fun s => s.isPrefixOf (t.drop q)) = (Wm.drop i).find? (fun s => s.isPrefixOf (t.drop q)) ∧ T' = tl [(0, .loc kr 0 0 0 []), (2, .int .i64 q), (34, .agg [AV.str [33, 61], AV.str [60, 61], AV.str [62, 61], AV.str [61], AV.str [60], AV.str [62], AV.str [94], AV.str [40], AV.str [41]]), (35, .int .i64 i)] ∧ H' = H ∧ n' = n) (fun T' _ _ => 9 - iv (T' 35)) ?_ ?_
 ·exact ⟨0, by omega, rfl, rfl, rfl, rfl⟩
 intro T1 H1 n1
 rintro ⟨i, hi, hfd, rfl, rfl, rfl⟩
 refine Za zs [0, 2, 34, 35, 36] fun K Y => ?_
 simp only [go_sem, seval, Int.toNat_natCast]
 apply Y; clear Y K
 refine Zb fun K3 hK3 => ?_
 refine Ze ?_ ?_ <;> intro hb
 ·have hi9 : i < 9 := by have := of_decide_eq_true hb; omega
  have hnth := nth_signs hi9
  have hsl := signs_len hi9
  rw [signs_drop hi9] at hfd
  have hx : IntKind.i64.wrap ((i : Int) + 1) = ((i + 1 : Nat) : Int) := w1 (by omega)
  refine Zd ?_
  simp only [go_sem, seval, Int.toNat_natCast]
  apply hK3
  clear hK3 K3
  refine Zb fun K4 hK4 => ?_
  refine Zj ?_
  refine Za zs [0, 2, 5, 34, 35] fun K Y => ?_
  simp only [go_sem, seval, Int.toNat_natCast, hnth]
  repeat (first | refine peel ?_ | refine ⟨by exact ⟨by omega, by omega, by simp [AV.sz], by simp [AV.isAgg]⟩, ?_⟩)
  apply Y; clear Y K
  refine Za zs [0, 2, 5, 34, 35, 45] fun K Y => ?_
  simp only [go_sem, seval, hR1, wdAV, Int.toNat_natCast, Option.getD_some, Option.getD_none, List.take_length]
  repeat refine peel ?_
  refine Zg func184 rfl rfl rfl ((QA (t.drop q) (Wm.getD i []) (by omega) _ _)) ?_
  apply Y; clear Y K
  refine Ze ?_ ?_ <;> intro hb
  ·rw [List.find?_cons_of_pos (by simpa using hb)] at hfd
   rw [hfd] at hr
   have hx : IntKind.i64.wrap ((q : Int) + ((Wm.getD i []).length : Int)) = ((q + (Wm.getD i []).length : Nat) : Int) := by rw [w64 (by omega) (by omega)]; omega
   refine Za zs [] fun K Y => ?_
   simp only [go_sem, seval, hR1, wdAV, hx, Int.toNat_natCast]
   repeat refine peel ?_
   apply Y; clear Y K
   refine Zf ?_
   simp only [go_sem, seval, Int.toNat_natCast]
   exact fin (s2 := { s with far := q + (Wm.getD i []).length, nxt := ⟨4, q, Wm.getD i [], 0, []⟩ }) (fun _ _ _ => rfl) h.o hr (frzQ _ _ _ _ _ _ _ _ hko)
  rw [List.find?_cons_of_neg (by rw [hb]; simp)] at hfd
  refine Zd ?_
  simp only [go_sem, seval, Int.toNat_natCast]
  apply hK4
  clear hK4 K4
  refine Zl zs [0, 2, 34, 35] fun K Y => ?_
  simp only [go_sem, seval, hx, Int.toNat_natCast]
  apply Y; clear Y K
  simp only [go_sem, seval, Int.toNat_natCast]
  exact ⟨⟨i + 1, by omega, hfd, rfl⟩, by omega⟩
 have hi9 : i = 9 := by have := of_decide_eq_false hb; omega
 refine ZA ?_
 simp only [go_sem, seval, Int.toNat_natCast]
 apply hK2
 refine Zl zs [] fun K Y => ?_
 simp only [go_sem, seval]
 refine Zi (args' := [.int .i64 q]) func163 rfl rfl rfl (Yq q _ _) ?_ ?_
 ·rintro rr H' n' ⟨rfl, rfl, h1⟩
  cases h1
 rintro q9 H' n' ⟨rfl, rfl, h1⟩
 cases h1
 refine QdE.err ?_ (Nat.le_refl _) (fun k _ _ _ => rfl)
 subst hi9
 rw [hr, hfd]; rfl
theorem Yu {ε α β : Type} {f : α → β} {x : Except ε α} {p : ε} (h : x.map f = .error p) : x = .error p := by
 cases x with
 | error e => cases h; rfl
 | ok a => cases h
theorem bind_err {ε α β : Type} {f : α → Except ε β} {x : Except ε α} {p : ε} (h : x = .error p) : x.bind f = .error p := by rw [h]; rfl
theorem QdK.got {fs : List Fml} {t : List UInt8} {kr ko : Nat} {H H' : Heap} {n n' : Nat} {r : Except Nat (AV × Qst)} {v : AV} (hk : QdK fs t kr ko H n r (.val v) H' n') (h1 : kr < n) (h2 : ko < n) (h3 : kr ≠ ko) : ∃ s ver, r = .ok (v, s) ∧ QdH fs t kr ko s ver H' n ∧ n = n' ∧ ∀ k, k ≠ kr → k ≠ ko → H' k = H k := by
 obtain ⟨s, ver, h1', rfl, rfl⟩ := hk.val
 refine ⟨s, ver, h1', ⟨h1, h2, h3, MG _ _ _, ?_⟩, rfl, fun k e1 e2 => ?_⟩ <;> unfold qst
 ·rw [ME _ _ h3.symm, MG]
 ·rw [ME _ _ e1, ME _ _ e2]
theorem YI (fs : List Fml) (t : List UInt8) (s : Qst) (kr ko ver : Nat) (ht : t.length ≤ 512) (hf : s.far ≤ t.length) (hl : s.out.length ≤ 1000000) (H : Heap) (n : Nat) (h : QdH fs t kr ko s ver H n) :
   Zx prog 187 [.loc kr 0 0 0 []] H n (QdK fs t kr ko H n ((Vw t s).map fun x => (wdAV x.1, x.2))) := by
 have hR1 := h.r
 unfold qdO at hR1
 have hO1 := h.o
 unfold outO at hO1
 have hk := h.lr
 have hko := h.lo
 have hne := h.ne
 have hszs : (Zt fs).sz = 1 := rfl
 have hszb : ∀ b, (bys b).sz = 1 := fun _ => rfl
 have g1 : (kr = n) = False := by simp; omega
 have g2 : (kr = n + 1) = False := by simp; omega
 have g3 : (ko = n) = False := by simp; omega
 have g4 : (ko = n + 1) = False := by simp; omega
 have g5 : (n = n + 1) = False := by simp
 have g6 : (n + 1 = n) = False := by simp
 have g7 : (kr = ko) = False := by simp; omega
 have g8 : (ko = kr) = False := by simp; omega
 have g9 : (n = kr) = False := by simp; omega
 have f1 : (n + 1 = kr) = False := by simp; omega
 have f2 : (n = ko) = False := by simp; omega
 have f3 : (n + 1 = ko) = False := by simp; omega
 have e1 : List.take s.out.length (List.map wdAV s.out) = List.map wdAV s.out := List.take_of_length_le (by simp)
 have hB := hszs
 obtain ⟨r, hr⟩ : ∃ r, r = ((Vw t s).map fun x => (wdAV x.1, x.2)) := ⟨_, rfl⟩
 rw [← hr]
 unfold Vw at hr
 refine QdK.fin hk hko hne ?_
 refine Zc func187 rfl ntmps187 (congrArg Array.toList results187) (by simp) ?_
 simp only [go_sem]
 refine Za zs [0, 2] fun K Y => ?_
 simp only [go_sem, seval]
 apply Y; clear Y K
 refine Za zs [0, 2, 3] fun K Y => ?_
 simp only [go_sem, seval, hR1, wdAV, g1]
 apply Y; clear Y K
 refine YJ rfl zs [0, 2, 3] [.m, .m, .q, .q, .q, .q, .q, .w [], .q, .q, .w []] (by kernel_rfl) (fun _ _ _ _ _ h => h) fun K Y => ?_
 simp only [go_sem, seval, hR1, hO1, wdAV, g1, g2, g3, g4, g7, e1, List.length_map]
 repeat (first | refine peel ?_ | (refine And.intro ?_ ?_; · first | exact ⟨rfl, by simp [AV.sz, AV.szs, AV.memOK, wdAV, bys]⟩ | exact ⟨by omega, .inr trivial, by omega, by omega⟩))
 apply Y; clear Y K
 refine Za zs [2, 3] fun K Y => ?_
 simp only [go_sem, seval]
 refine Zi (args' := [.loc kr 0 0 0 []]) func161 rfl rfl rfl (Jz fs t { s with out := s.out ++ [s.nxt] } kr ko (ver + 1) ht hf _ _ ?_) ?_ ?_
 ·exact ⟨by omega, by omega, hne, by rw [MG]; simp only [qdO, List.length_append, List.length_singleton]; rfl, by rw [ME _ _ hne.symm, MG]; simp only [outO, List.map_append]; rfl⟩
 rotate_left
 ·rintro q9 H' n' hc
  refine hc.up (fun p9 he => ?_) (by omega) (fun k e1 e2 e3 => by simp only [MF]; (repeat rw [if_neg (by omega)]))
  rw [Yu he] at hr; exact hr
 rintro rr H1 n1 hc
 obtain ⟨s2, v2, he, h2, rfl, hl2⟩ := hc.got (by omega) (by omega) hne
 have hB : H1 (n + 1) = some (.arr 0 5 [wdAV s.nxt]) := (hl2 _ (by omega) (by omega)).trans (by rw [ME _ _ (by omega), ME _ _ (by omega), MG]; rfl)
 have hR1 : H1 n = some (.arr 0 5 [.agg [.int .i64 0, .int .i64 0, .str [], .int .i64 0, .nilsl]]) := (hl2 _ (by omega) (by omega)).trans (by rw [ME _ _ (by omega), ME _ _ (by omega), ME _ _ (by omega), MG])
 obtain ⟨x, hx, hy⟩ := map_ok he
 cases hy
 rw [hx] at hr
 apply Y; clear Y K
 refine Za zs [2] fun K Y => ?_
 simp only [go_sem, seval, hR1, hB, wdAV]
 apply Y; clear Y K
 refine Zf ?_
 simp only [go_sem, seval]
 exact QdE.ok (s := s2) hr (h2.on (ME _ _ (by omega)) (ME _ _ (by omega)) (Nat.le_refl _)) hko (fun k e1 e2 e3 => (ME _ _ (by omega)).trans ((hl2 k e2 e3).trans (by simp only [MF]; (repeat rw [if_neg (by omega)])))) (.kl (KW _ _))
theorem JB (fs : List Fml) (t : List UInt8) (s : Qst) (kr ko ver : Nat) (ht : t.length ≤ 512) (hf : s.far ≤ t.length) (hl : s.out.length ≤ 1000000) (hd : s.deep ≤ 1000) (H : Heap) (n : Nat) (h : QdH fs t kr ko s ver H n) :
   Zx prog 203 [.loc kr 0 0 0 []] H n (QdK fs t kr ko H n ((LH t s).map fun x => (.tup [], x))) := by
 have hR1 := h.r
 unfold qdO at hR1
 have hk := h.lr
 have hko := h.lo
 have hne := h.ne
 have hszs : (Zt fs).sz = 1 := rfl
 have hszb : ∀ b, (bys b).sz = 1 := fun _ => rfl
 have e0 : IntKind.i64.wrap ((s.deep : Int) + 1) = ((s.deep + 1 : Nat) : Int) := by rw [w64 (by omega) (by omega)]; omega
 obtain ⟨r, hr⟩ : ∃ r, r = ((LH t s).map fun x => ((.tup [] : AV), x)) := ⟨_, rfl⟩
 rw [← hr]
 unfold LH at hr
 refine QdK.fin hk hko hne ?_
 refine Zc func203 rfl ntmps203 (congrArg Array.toList results203) (by simp) ?_
 simp only [go_sem]
 refine Za zs [0] fun K Y => ?_
 simp only [go_sem, seval, hR1, wdAV, e0]
 apply Y; clear Y K
 refine Zb fun K1 hK1 => ?_
 refine Za zs [0, 13] fun K Y => ?_
 simp only [go_sem, seval]
 apply Y; clear Y K
 refine Ze ?_ ?_ <;> intro hb
 ·have hb1 : 16 < s.deep + 1 := by have := of_decide_eq_true hb; omega
  rw [if_pos hb1] at hr
  refine Zl zs [0] fun K Y => ?_
  simp only [go_sem, seval]
  refine Zi (args' := [.int .i64 s.nxt.pos]) func163 rfl rfl rfl (Yq s.nxt.pos _ _) ?_ ?_
  ·rintro rr H' n' ⟨rfl, rfl, h1⟩
   cases h1
  rintro q9 H' n' ⟨rfl, rfl, h1⟩
  cases h1
  exact QdE.err hr (Nat.le_refl _) (fun k _ e2 _ => ME _ _ e2)
 have hb1 : ¬ 16 < s.deep + 1 := by have := of_decide_eq_false hb; omega
 rw [if_neg hb1] at hr
 refine Zd ?_
 simp only [go_sem, seval]
 apply hK1
 clear hK1 K1
 refine Zl zs [] fun K Y => ?_
 simp only [go_sem, seval]
 refine Zi (args' := [.loc kr 0 0 0 []]) func187 rfl rfl rfl (YI fs t { s with deep := s.deep + 1 } kr ko ver ht hf hl _ _ ?_) ?_ ?_
 ·exact ⟨hk, hko, hne, MG _ _ _, by rw [ME _ _ hne.symm]; exact h.o⟩
 rotate_left
 ·rintro q9 H' n' hc
  exact hc.up (fun p9 he => by rw [Yu he] at hr; exact hr) (Nat.le_refl _) (fun k _ e2 _ => ME _ _ e2)
 rintro rr H1 n1 hc
 obtain ⟨s2, v2, he, h2, rfl, hl2⟩ := hc.got hk hko hne
 obtain ⟨x, hx, hy⟩ := map_ok he
 cases hy
 rw [hx] at hr
 apply Y; clear Y K
 simp only [go_sem, seval]
 exact QdE.ok hr h2 hko (fun k e1 e2 e3 => (hl2 k e2 e3).trans (ME _ _ e2)) (.tup .nil)
theorem Jy (fs : List Fml) (t : List UInt8) (s : Qst) (kr ko ver : Nat) (ht : t.length ≤ 512) (hf : s.far ≤ t.length) (hl : s.out.length ≤ 1000000) (w : Nat) (H : Heap) (n : Nat) (h : QdH fs t kr ko s ver H n) :
   Zx prog 212 [.loc kr 0 0 0 [], .int .i64 w] H n (QdK fs t kr ko H n ((La t w s).map fun x => (wdAV x.1, x.2))) := by
 have hR1 := h.r
 unfold qdO at hR1
 have hk := h.lr
 have hko := h.lo
 have hne := h.ne
 have hszs : (Zt fs).sz = 1 := rfl
 have hszb : ∀ b, (bys b).sz = 1 := fun _ => rfl
 have g1 : (kr = n) = False := by simp; omega
 obtain ⟨r, hr⟩ : ∃ r, r = ((La t w s).map fun x => (wdAV x.1, x.2)) := ⟨_, rfl⟩
 rw [← hr]
 unfold La at hr
 refine QdK.fin hk hko hne ?_
 refine Zc func212 rfl ntmps212 (congrArg Array.toList results212) (by simp) ?_
 simp only [go_sem]
 refine Za zs [0, 1, 4] fun K Y => ?_
 simp only [go_sem, seval]
 apply Y; clear Y K
 refine Zb fun K1 hK1 => ?_
 refine Za zs [0, 4, 11] fun K Y => ?_
 simp only [go_sem, seval, hR1, wdAV, g1]
 apply Y; clear Y K
 refine Ze ?_ ?_ <;> intro hb
 ·have hb1 : ¬ s.nxt.kind = w := by have h9 := hb; simp at h9; omega
  rw [if_neg hb1] at hr
  refine Zl zs [0, 4] fun K Y => ?_
  simp only [go_sem, seval, hR1, wdAV, g1]
  refine Zi (args' := [.int .i64 s.nxt.pos]) func163 rfl rfl rfl (Yq s.nxt.pos _ _) ?_ ?_
  ·rintro rr H' n' ⟨rfl, rfl, h1⟩
   cases h1
  rintro q9 H' n' ⟨rfl, rfl, h1⟩
  cases h1
  exact QdE.err hr (by omega) (fun k _ e2 _ => ME _ _ (by omega))
 have hb1 : s.nxt.kind = w := by have h9 := hb; simp at h9; omega
 rw [if_pos hb1] at hr
 refine Zd ?_
 simp only [go_sem, seval]
 apply hK1
 clear hK1 K1
 refine Za zs [4] fun K Y => ?_
 simp only [go_sem, seval]
 refine Zi (args' := [.loc kr 0 0 0 []]) func187 rfl rfl rfl (YI fs t s kr ko ver ht hf hl _ _ ?_) ?_ ?_
 ·exact h.low (fun k hk9 => ME _ _ (by omega)) (by omega)
 rotate_left
 ·rintro q9 H' n' hc
  exact hc.up (fun p9 he => by rw [Yu he] at hr; exact hr) (by omega) (fun k _ e2 _ => ME _ _ (by omega))
 rintro rr H1 n1 hc
 obtain ⟨s2, v2, he, h2, rfl, hl2⟩ := hc.got (by omega) (by omega) hne
 have hR1 : H1 n = some (.arr 0 5 [.agg [.int .i64 0, .int .i64 0, .str [], .int .i64 0, .nilsl]]) := (hl2 _ (by omega) (by omega)).trans (MG _ _ _)
 obtain ⟨x, hx, hy⟩ := map_ok he
 cases hy
 rw [hx] at hr
 simp only [go_sem, seval, hR1, wdAV]
 apply Y; clear Y K
 refine Zf ?_
 simp only [go_sem, seval]
 exact QdE.ok (v' := wdAV x.1) hr (h2.on (ME _ _ (by omega)) (ME _ _ (by omega)) (Nat.le_refl _)) hko (fun k e1 e2 e3 => (ME _ _ (by omega)).trans ((hl2 k e2 e3).trans (ME _ _ (by omega)))) (.kl (KW _ _))
theorem UC (fs : List Fml) (t : List UInt8) (s : Qst) (kr ko ver : Nat) (ht : t.length ≤ 512) (hf : s.far ≤ t.length) (hl : s.out.length ≤ 1000000) (ws : List (List UInt8)) (hws : ws.length ≤ 100) (H : Heap) (n : Nat) (h : QdH fs t kr ko s ver H n) :
   Zx prog 210 [.loc kr 0 0 0 [], .sl 1 (ws.map .str)] H n (QdK fs t kr ko H n ((Km t ws s).map fun x => (.str x.1, x.2))) := by
 have hR1 := h.r
 unfold qdO at hR1
 have hk := h.lr
 have hko := h.lo
 have hne := h.ne
 have hszs : (Zt fs).sz = 1 := rfl
 have hszb : ∀ b, (bys b).sz = 1 := fun _ => rfl
 have hx := hszs
 have hnth := hszs
 obtain ⟨r, hr⟩ : ∃ r, r = ((Km t ws s).map fun x => (AV.str x.1, x.2)) := ⟨_, rfl⟩
 rw [← hr]
 unfold Km at hr
 refine QdK.fin hk hko hne ?_
 refine Zc func210 rfl ntmps210 (congrArg Array.toList results210) (by simp) ?_
 simp only [go_sem]
 refine Za zs [0, 1] fun K Y => ?_
 simp only [go_sem, seval]
 apply Y; clear Y K
 refine Zb fun K1 hK1 => ?_
 refine Za zs [0, 7, 8, 9] fun K Y => ?_
 simp only [go_sem, seval, List.length_map]
 apply Y; clear Y K
 refine Zj ?_
 refine Zz (fun T' H' n' => ∃ i : Nat, i ≤ ws.length ∧ (∀ j, j < i → ¬ (s.nxt.kind = 4 ∧ s.nxt.text = ws.getD j [])) ∧ T' = tl [(0, .loc kr 0 0 0 []), (7, .sl 1 (ws.map .str)), (8, .int .i64 ws.length), (9, .int .i64 i)] ∧ H' = H ∧ n' = n) (fun T' _ _ => ws.length - iv (T' 9)) ?_ ?_
 ·exact ⟨0, by omega, fun j hj => absurd hj (Nat.not_lt_zero _), rfl, rfl, rfl⟩
 intro T1 H1 n1
 rintro ⟨i, hi, hno, rfl, rfl, rfl⟩
 refine Za zs [0, 7, 8, 9, 10] fun K Y => ?_
 simp only [go_sem, seval, Int.toNat_natCast]
 apply Y; clear Y K
 refine Zb fun K2 hK2 => ?_
 refine Ze ?_ ?_ <;> intro hb
 ·have hlt : i < ws.length := by have := of_decide_eq_true hb; omega
  have hnth : nth (ws.map AV.str) i = AV.str (ws.getD i []) := ZF AV.str ws _ hlt
  have hx : IntKind.i64.wrap ((i : Int) + 1) = ((i + 1 : Nat) : Int) := w1 (by omega)
  refine Zd ?_
  simp only [go_sem, seval, Int.toNat_natCast]
  apply hK2
  clear hK2 K2
  refine Zb fun K3 hK3 => ?_
  refine Zj ?_
  refine Za zs [0, 6, 7, 8, 9] fun K Y => ?_
  simp only [go_sem, seval, hnth, List.length_map, Int.toNat_natCast]
  repeat refine peel ?_
  apply Y; clear Y K
  refine Za zs [0, 7, 8, 9, 27] fun K Y => ?_
  simp only [go_sem, seval, hR1, wdAV, Int.toNat_natCast]
  repeat refine peel ?_
  apply Y; clear Y K
  refine Ze ?_ ?_ <;> intro hb
  ·have hb1 : s.nxt.kind = 4 ∧ s.nxt.text = ws.getD i [] := by have h9 := hb; simp at h9; exact ⟨by omega, by simpa using h9.2⟩
   rw [if_pos ⟨hb1.1, by rw [hb1.2]; simp [List.getD, hlt]⟩] at hr
   refine Za zs [4] fun K Y => ?_
   simp only [go_sem, seval, Int.toNat_natCast]
   refine Zi (args' := [.loc kr 0 0 0 []]) func187 rfl rfl rfl (YI fs t s kr ko ver ht hf hl _ _ h) ?_ ?_
   rotate_left
   ·rintro q9 H' n' hc
    exact hc.up (fun p9 he => by rw [Yu he] at hr; exact hr) (Nat.le_refl _) (fun k _ _ _ => rfl)
   rintro rr H1 n1 hc
   obtain ⟨s2, v2, he, h2, rfl, hl2⟩ := hc.got hk hko hne
   obtain ⟨x, hx, hy⟩ := map_ok he
   cases hy
   rw [hx] at hr
   simp only [go_sem, seval, wdAV]
   apply Y; clear Y K
   refine Zf ?_
   simp only [go_sem, seval, Int.toNat_natCast]
   exact QdE.ok hr h2 hko (fun k e1 e2 e3 => hl2 k e2 e3) (.kl trivial)
  have hb1 : ¬ (s.nxt.kind = 4 ∧ s.nxt.text = ws.getD i []) := by rintro ⟨e1, e2⟩; rw [e1, e2] at hb; simp at hb
  refine Zd ?_
  simp only [go_sem, seval, Int.toNat_natCast]
  apply hK3
  clear hK3 K3
  refine Zl zs [0, 7, 8, 9] fun K Y => ?_
  simp only [go_sem, seval, hx, Int.toNat_natCast]
  apply Y; clear Y K
  simp only [go_sem, seval, Int.toNat_natCast]
  exact ⟨⟨i + 1, by omega, fun j hj => by rcases Nat.lt_or_ge j i with q | q; exact hno j q; (obtain rfl : j = i := by omega); exact hb1, rfl⟩, by omega⟩
 have hge : i = ws.length := by have := of_decide_eq_false hb; omega
 refine ZA ?_
 simp only [go_sem, seval, Int.toNat_natCast]
 apply hK1
 refine Za zs [] fun K Y => ?_
 simp only [go_sem, seval, hR1, wdAV]
 refine Zi (args' := [.int .i64 s.nxt.pos]) func163 rfl rfl rfl (Yq s.nxt.pos _ _) ?_ ?_
 ·rintro rr H' n' ⟨rfl, rfl, h1⟩
  cases h1
 rintro q9 H' n' ⟨rfl, rfl, h1⟩
 cases h1
 have hno2 : ¬ (s.nxt.kind = 4 ∧ s.nxt.text ∈ ws) := by
   rintro ⟨e1, e2⟩
   obtain ⟨j, hj, he⟩ := List.mem_iff_getElem.1 e2
   exact hno j (by omega) ⟨e1, by simp [List.getD, hj, he]⟩
 rw [if_neg hno2] at hr
 exact QdE.err hr (Nat.le_refl _) (fun k _ _ _ => rfl)
def YZ : Tst → AV
 | .or a b => .fn (.func 188) [] [.rp (YZ a), .rp (YZ b)]
 | .and a b => .fn (.func 199) [] [.rp (YZ a), .rp (YZ b)]
 | .not a => .fn (.func 204) [] [.rp (YZ a)]
 | .fam n sign => .fn (.func 211) [] [.rp (.int .i64 n), .rp (.str sign)]
 | .cmp qual sign s => .fn (.func 213) [] [.rp (.bool qual), .rp (.str sign), .rp (bys s)]
 | .ts sign n => .fn (.func 216) [] [.rp (.str sign), .rp (.int .i64 n)]
theorem Xc (n : Nat) : ∀ a : Tst, (YZ a).kl n
 | .or a b => ⟨trivial, Xc n a, Xc n b, trivial⟩
 | .and a b => ⟨trivial, Xc n a, Xc n b, trivial⟩
 | .not a => ⟨trivial, Xc n a, trivial⟩
 | .fam _ _ => ⟨trivial, trivial, trivial, trivial⟩
 | .cmp _ _ s => ⟨trivial, trivial, trivial, ZJ _ _, trivial⟩
 | .ts _ _ => ⟨trivial, trivial, trivial, trivial⟩
theorem Wi {H : Heap} {n k e : Nat} {a b : AV} (hk : H k = some (.arr 0 e [a])) (hn : n ≤ k) (hf : Frz H n a b) : Frz H n (.loc k 0 0 0 []) (.rp b) := .loc hk hn (by simp) (by simp [AV.pathOff]) trivial hf
theorem callQ_mkQ {P : Program} {f : FuncId} {fn : Func} {first captured args args' : List AV} {H : Heap} {r : AV}
   (hf : P.funcs[f]? = some fn) (hb : fn.body.isSome = true) (hn : (fn.name == "runtime.NumGoroutine") = false) (ha : first ++ args ++ captured = args') (h : ∀ n, Ret P f args' H n r H n) : KD P (.fn (.func f) first captured) args H r :=
 fun n => Zg hf hb hn ha (h n) ⟨rfl, rfl, rfl⟩
set_option maxHeartbeats 1600000 in
theorem c_query_test (fs : List Fml) (hfs : fs.length ≤ 1048576) (t : List UInt8) (s : Qst) (kr ko ver : Nat) (ht : t.length ≤ 512) (hI : QI t s) (H : Heap) (n : Nat) (h : QdH fs t kr ko s ver H n) :
   Zx prog 205 [.loc kr 0 0 0 []] H n (QdK fs t kr ko H n ((testF fs t s).map fun x => (YZ x.1, x.2))) := by
 have hR := h.r
 have hR1 := hR
 unfold qdO at hR1
 have hk := h.lr
 have hko := h.lo
 have hne := h.ne
 have hszs : (Zt fs).sz = 1 := rfl
 have hszb : ∀ b, (bys b).sz = 1 := fun _ => rfl
 have g1 : (kr = n) = False := by simp; omega
 have g2 : (kr = n + 1) = False := by simp; omega
 have g3 : (n = n + 1) = False := by simp
 have g4 : (n + 1 = n) = False := by simp
 have hB1 := hszs
 have hB2 := hszs
 obtain ⟨r, hr⟩ : ∃ r, r = ((testF fs t s).map fun x => (YZ x.1, x.2)) := ⟨_, rfl⟩
 rw [← hr]
 unfold testF at hr
 refine QdK.fin hk hko hne ?_
 refine Zc func205 rfl ntmps205 (congrArg Array.toList results205) (by simp) ?_
 simp only [go_sem]
 refine Za zs [0] fun K Y => ?_
 simp only [go_sem, seval]
 apply Y; clear Y K
 refine Zb fun K1 hK1 => ?_
 refine Zj ?_
 refine Za zs [0, 10] fun K Y => ?_
 simp only [go_sem, seval]
 refine Zg func186 rfl rfl rfl ((Xr fs t s kr ko ver wFam _ _ hR)) ?_
 simp only [go_sem, seval]
 apply Y; clear Y K
 refine Ze ?_ ?_ <;> intro hb
 ·simp only [if_pos hb] at hr
  refine Za zs [0] fun K Y => ?_
  simp only [go_sem, seval]
  refine Zi (args' := [.loc kr 0 0 0 []]) func187 rfl rfl rfl (YI fs t s kr ko ver ht hI.far (hI.outs ht) _ _ ?_) ?_ ?_
  ·exact h
  rotate_left
  ·rintro q9 H' n' hc
   exact hc.up (fun p9 he => by rw [Yu he] at hr; exact hr) (by omega) (fun k e1 e2 e3 => by rfl)
  rintro rr H1 n9 hc
  obtain ⟨_, v1, he, h1, rfl, hl1⟩ := hc.got (by omega) (by omega) hne
  obtain ⟨x1, hx1, hy⟩ := map_ok he
  cases hy
  have hI1 := (YT ht hI (Y1 hb) (w := x1.1) (s' := x1.2) hx1).1.1
  simp only [hx1, Xb] at hr
  have hR1 := h1.r
  unfold qdO at hR1
  apply Y; clear Y K
  refine Za zs [0, 3] fun K Y => ?_
  simp only [go_sem, seval]
  repeat refine peel ?_
  refine Zi (args' := [.loc kr 0 0 0 [], .sl 1 (sEq.map .str)]) func210 rfl rfl rfl (UC fs t x1.2 kr ko v1 ht hI1.far (hI1.outs ht) sEq (by decide) _ _ ?_) ?_ ?_
  ·exact h1
  rotate_left
  ·rintro q9 H' n' hc
   exact hc.up (fun p9 he => by rw [Yu he] at hr; exact hr) (by omega) (fun k e1 e2 e3 => by exact hl1 k e2 e3)
  rintro rr H2 n9 hc
  obtain ⟨_, v2, he, h2, rfl, hl2⟩ := hc.got (by omega) (by omega) hne
  obtain ⟨x2, hx2, hy⟩ := map_ok he
  cases hy
  have hI2 := (Ue ht hI1 (w := x2.1) (s' := x2.2) hx2).1
  simp only [hx2, Xb] at hr
  have hR1 := h2.r
  unfold qdO at hR1
  simp only [go_sem, seval]
  apply Y; clear Y K
  refine VY rfl zs [0, 3, 4] [.m, .q, .q, .q, .m, .q, .q, .q, .q, .c, .w [1, 2, 3, 5, 6, 7, 8, 9], .w []] [0, 1, 2, 3, 4, 5, 6, 7, 8, 9, 10, 11] [0, 1, 2, 3, 4, 5, 6, 7, 8, 9, 10, 11] (by kernel_rfl) (fun _ _ _ _ _ h => h) fun K Y => ?_
  simp only [go_sem, seval, hR1, wdAV, g1, g2]
  refine ZR func104 rfl rfl rfl (fun _ n => (Ub fs x2.2.nxt.text hfs _ _)) ?_
  simp only [go_sem, seval]
  repeat (first | refine peel ?_ | refine ⟨by exact fun d hd => by cases hd; exact callQ_mkQ func104 rfl rfl rfl (fun n => Ub fs _ hfs _ _), ?_⟩)
  apply Y; clear Y K
  refine Zb fun K2 hK2 => ?_
  refine Za zs [0, 3, 4, 37] fun K Y => ?_
  simp only [go_sem, seval, hR1, wdAV, g1, g2]
  repeat refine peel ?_
  apply Y; clear Y K
  refine Ze ?_ ?_ <;> intro hb
  ·have hbad : x2.2.nxt.kind ≠ 1 ∨ famF fs x2.2.nxt.text < 0 := by
     unfold famF
     by_cases e : x2.2.nxt.kind = 1
     ·right; rw [e] at hb; exact of_decide_eq_true (by simpa using hb)
     ·exact .inl e
   rw [if_pos hbad, er_map] at hr
   refine Zl zs [0, 3, 4] fun K Y => ?_
   simp only [go_sem, seval, hR1, wdAV, g1, g2]
   refine Zi (args' := [.int .i64 x2.2.nxt.pos]) func163 rfl rfl rfl (Yq x2.2.nxt.pos _ _) ?_ ?_
   ·rintro rr H' n' ⟨rfl, rfl, h1⟩
    cases h1
   rintro q9 H' n' ⟨rfl, rfl, h1⟩
   cases h1
   exact QdE.err hr (by omega) (fun k e1 e2 e3 => by simp only [MF]; (repeat rw [if_neg (by omega)]); rw [hl2 k e2 e3, hl1 k e2 e3])
  have hok : ¬ (x2.2.nxt.kind ≠ 1 ∨ famF fs x2.2.nxt.text < 0) := by
    rintro (e | e)
    ·have e9 : ((x2.2.nxt.kind : Int) != 1) = true := by simp; omega
     rw [e9] at hb; cases hb
    ·unfold famF at e; rw [decide_eq_true e] at hb; cases e9 : ((x2.2.nxt.kind : Int) != 1) <;> rw [e9] at hb <;> cases hb
  rw [if_neg hok] at hr
  refine Zd ?_
  simp only [go_sem, seval]
  apply hK2
  clear hK2 K2
  refine Za zs [3, 4] fun K Y => ?_
  simp only [go_sem, seval]
  refine Zi (args' := [.loc kr 0 0 0 []]) func187 rfl rfl rfl (YI fs t x2.2 kr ko v2 ht hI2.far (hI2.outs ht) _ _ ?_) ?_ ?_
  ·exact h2.low (fun k hk9 => by (try simp only [MF]); (repeat rw [if_neg (by omega)])) (by omega)
  rotate_left
  ·rintro q9 H' n' hc
   exact hc.up (fun p9 he => by rw [Yu he] at hr; exact hr) (by omega) (fun k e1 e2 e3 => by simp only [MF]; (repeat rw [if_neg (by omega)]); rw [hl2 k e2 e3, hl1 k e2 e3])
  rintro rr H3 n9 hc
  obtain ⟨_, v3, he, h3, rfl, hl3⟩ := hc.got (by omega) (by omega) hne
  obtain ⟨x3, hx3, hy⟩ := map_ok he
  cases hy
  have hI3 := (YT ht hI2 (by omega) (w := x3.1) (s' := x3.2) hx3).1.1
  simp only [hx3, QW] at hr
  have hR1 := h3.r
  unfold qdO at hR1
  have hB1 : H3 n = some (.arr 0 1 [.str x2.1]) := (hl3 _ (by omega) (by omega)).trans (by simp only [MF]; (repeat rw [if_neg (by omega)]); simp)
  have hB2 : H3 (n + 1) = some (.arr 0 1 [.int .i64 (famF fs x2.2.nxt.text)]) := (hl3 _ (by omega) (by omega)).trans (by simp only [MF]; (repeat rw [if_neg (by omega)]); simp <;> rfl)
  apply Y; clear Y K
  refine Za zs [2] fun K Y => ?_
  simp only [go_sem, seval]
  apply Y; clear Y K
  refine Zf ?_
  simp only [go_sem, seval]
  exact QdE.ok hr h3 hko (fun k e1 e2 e3 => (hl3 k e2 e3).trans (by simp only [MF]; (repeat rw [if_neg (by omega)]); rw [hl2 k e2 e3, hl1 k e2 e3])) (.fn .nil (.cons (Wi hB2 (by omega) (.kl trivial)) (.cons (Wi hB1 (by omega) (.kl trivial)) .nil)))
 rw [if_neg (by rw [hb]; simp)] at hr
 refine Yi [0, 47] (fun T' H' n' => T' = tl [(0, .loc kr 0 0 0 []), (47, .bool (isF s Q9 || isF s QP))] ∧ H = H' ∧ n = n') ?_ ?_
 ·refine Za zs [0, 47] fun K Y => ?_
  simp only [go_sem, seval]
  refine Zg func186 rfl rfl rfl ((Xr fs t s kr ko ver Q9 _ _ hR)) ?_
  simp only [go_sem, seval]
  apply Y; clear Y K
  refine Ze ?_ ?_ <;> intro hb
  ·try (have hq : isF s Q9 = true ∨ isF s QP = true := by simpa using hb)
   try rw [if_pos hq] at hr
   refine Zd ?_
   simp only [go_sem, seval]
   rw [hb]; first | rfl | (cases isF s Q9 <;> cases isF s QP <;> first | rfl | contradiction)
  try rw [if_neg (by simpa using hb)] at hr
  refine Zl zs [0, 47] fun K Y => ?_
  simp only [go_sem, seval]
  refine Zg func186 rfl rfl rfl ((Xr fs t s kr ko ver QP _ _ hR)) ?_
  simp only [go_sem, seval]
  apply Y; clear Y K
  simp only [go_sem, seval]
  rw [hb]; first | rfl | (cases isF s Q9 <;> cases isF s QP <;> first | rfl | contradiction)
 rintro T1 H1 n1 ⟨rfl, rfl, rfl⟩
 refine Ze ?_ ?_ <;> intro hb
 ·try (have hq : isF s Q9 = true ∨ isF s QP = true := by simpa using hb)
  try rw [if_pos hq] at hr
  refine Za zs [0, 5] fun K Y => ?_
  simp only [go_sem, seval]
  refine Zi (args' := [.loc kr 0 0 0 []]) func187 rfl rfl rfl (YI fs t s kr ko ver ht hI.far (hI.outs ht) _ _ ?_) ?_ ?_
  ·exact h
  rotate_left
  ·rintro q9 H' n' hc
   exact hc.up (fun p9 he => by rw [Yu he] at hr; exact hr) (by omega) (fun k e1 e2 e3 => by rfl)
  rintro rr H1 n9 hc
  obtain ⟨_, v1, he, h1, rfl, hl1⟩ := hc.got (by omega) (by omega) hne
  obtain ⟨x1, hx1, hy⟩ := map_ok he
  cases hy
  have hI1 := (YT ht hI (by rcases hq with e | e <;> exact Y1 e) (w := x1.1) (s' := x1.2) hx1).1.1
  simp only [hx1, Xb] at hr
  have hR1 := h1.r
  unfold qdO at hR1
  simp only [go_sem, seval, wdAV]
  apply Y; clear Y K
  refine Za zs [0, 5, 6] fun K Y => ?_
  simp only [go_sem, seval]
  repeat refine peel ?_
  refine Zi (args' := [.loc kr 0 0 0 [], .sl 1 (sAll.map .str)]) func210 rfl rfl rfl (UC fs t x1.2 kr ko v1 ht hI1.far (hI1.outs ht) sAll (by decide) _ _ ?_) ?_ ?_
  ·exact h1.low (fun k hk9 => by (try simp only [MF]); (repeat rw [if_neg (by omega)])) (by omega)
  rotate_left
  ·rintro q9 H' n' hc
   exact hc.up (fun p9 he => by rw [Yu he] at hr; exact hr) (by omega) (fun k e1 e2 e3 => by rw [ME _ _ (by omega)]; exact hl1 k e2 e3)
  rintro rr H2 n9 hc
  obtain ⟨_, v2, he, h2, rfl, hl2⟩ := hc.got (by omega) (by omega) hne
  obtain ⟨x2, hx2, hy⟩ := map_ok he
  cases hy
  have hI2 := (Ue ht hI1 (w := x2.1) (s' := x2.2) hx2).1
  simp only [hx2, Xb] at hr
  have hR1 := h2.r
  unfold qdO at hR1
  have hB1 : H2 n = some (.arr 0 1 [.bool (x1.1.text == Q9)]) := (hl2 _ (by omega) (by omega)).trans (by simp only [MF]; (repeat rw [if_neg (by omega)]); simp <;> rfl)
  simp only [go_sem, seval]
  apply Y; clear Y K
  refine Za zs [5, 6, 7] fun K Y => ?_
  simp only [go_sem, seval]
  refine Zi (args' := [.loc kr 0 0 0 [], .int .i64 ((3 : Nat) : Int)]) func212 rfl rfl rfl (Jy fs t x2.2 kr ko v2 ht hI2.far (hI2.outs ht) 3 _ _ ?_) ?_ ?_
  ·exact h2.low (fun k hk9 => by (try simp only [MF]); (repeat rw [if_neg (by omega)])) (by omega)
  rotate_left
  ·rintro q9 H' n' hc
   exact hc.up (fun p9 he => by rw [Yu he] at hr; exact hr) (by omega) (fun k e1 e2 e3 => by rw [ME _ _ (by omega), hl2 k e2 e3, ME _ _ (by omega)]; exact hl1 k e2 e3)
  rintro rr H3 n9 hc
  obtain ⟨_, v3, he, h3, rfl, hl3⟩ := hc.got (by omega) (by omega) hne
  obtain ⟨x3, hx3, hy⟩ := map_ok he
  cases hy
  have hI3 := (Q8 ht (by decide) hI2 (w := x3.1) (s' := x3.2) hx3).1
  simp only [hx3, QW] at hr
  have hR1 := h3.r
  unfold qdO at hR1
  have hB2 : H3 (n + 1) = some (.arr 0 1 [.str x2.1]) := (hl3 _ (by omega) (by omega)).trans (by simp only [MF]; (repeat rw [if_neg (by omega)]); simp)
  have hB1 := (hl3 n (by omega) (by omega)).trans ((ME _ _ (by omega)).trans hB1)
  simp only [go_sem, seval, wdAV]
  apply Y; clear Y K
  refine Za zs [2] fun K Y => ?_
  simp only [go_sem, seval]
  apply Y; clear Y K
  refine Zf ?_
  simp only [go_sem, seval]
  exact QdE.ok hr (h3.on (ME _ _ (by omega)) (ME _ _ (by omega)) (Nat.le_refl _)) hko (fun k e1 e2 e3 => by rw [ME _ _ (by omega), hl3 k e2 e3, ME _ _ (by omega), hl2 k e2 e3, ME _ _ (by omega)]; exact hl1 k e2 e3) (.fn .nil (.cons (Wi ((ME _ _ (by omega)).trans hB1) (by omega) (.kl trivial)) (.cons (Wi ((ME _ _ (by omega)).trans hB2) (by omega) (.kl trivial)) (.cons (Wi (MG _ _ _) (by omega) (.kl (ZJ _ _))) .nil))))
 try rw [if_neg (by simpa using hb)] at hr
 refine Za zs [0, 63] fun K Y => ?_
 simp only [go_sem, seval]
 refine Zg func186 rfl rfl rfl ((Xr fs t s kr ko ver wTs _ _ hR)) ?_
 simp only [go_sem, seval]
 apply Y; clear Y K
 refine Ze ?_ ?_ <;> intro hb
 ·rw [if_pos hb] at hr
  refine Za zs [0] fun K Y => ?_
  simp only [go_sem, seval]
  refine Zi (args' := [.loc kr 0 0 0 []]) func187 rfl rfl rfl (YI fs t s kr ko ver ht hI.far (hI.outs ht) _ _ ?_) ?_ ?_
  ·exact h
  rotate_left
  ·rintro q9 H' n' hc
   exact hc.up (fun p9 he => by rw [Yu he] at hr; exact hr) (by omega) (fun k e1 e2 e3 => by rfl)
  rintro rr H1 n9 hc
  obtain ⟨_, v1, he, h1, rfl, hl1⟩ := hc.got (by omega) (by omega) hne
  obtain ⟨x1, hx1, hy⟩ := map_ok he
  cases hy
  have hI1 := (YT ht hI (Y1 hb) (w := x1.1) (s' := x1.2) hx1).1.1
  simp only [hx1, Xb] at hr
  have hR1 := h1.r
  unfold qdO at hR1
  apply Y; clear Y K
  refine Za zs [0, 8] fun K Y => ?_
  simp only [go_sem, seval]
  repeat refine peel ?_
  refine Zi (args' := [.loc kr 0 0 0 [], .sl 1 (sCmp.map .str)]) func210 rfl rfl rfl (UC fs t x1.2 kr ko v1 ht hI1.far (hI1.outs ht) sCmp (by decide) _ _ ?_) ?_ ?_
  ·exact h1
  rotate_left
  ·rintro q9 H' n' hc
   exact hc.up (fun p9 he => by rw [Yu he] at hr; exact hr) (by omega) (fun k e1 e2 e3 => by exact hl1 k e2 e3)
  rintro rr H2 n9 hc
  obtain ⟨_, v2, he, h2, rfl, hl2⟩ := hc.got (by omega) (by omega) hne
  obtain ⟨x2, hx2, hy⟩ := map_ok he
  cases hy
  have hI2 := (Ue ht hI1 (w := x2.1) (s' := x2.2) hx2).1
  simp only [hx2, Xb] at hr
  have hR1 := h2.r
  unfold qdO at hR1
  simp only [go_sem, seval]
  apply Y; clear Y K
  refine Za zs [8, 9] fun K Y => ?_
  simp only [go_sem, seval]
  refine Zi (args' := [.loc kr 0 0 0 [], .int .i64 ((2 : Nat) : Int)]) func212 rfl rfl rfl (Jy fs t x2.2 kr ko v2 ht hI2.far (hI2.outs ht) 2 _ _ ?_) ?_ ?_
  ·exact h2.low (fun k hk9 => by (try simp only [MF]); (repeat rw [if_neg (by omega)])) (by omega)
  rotate_left
  ·rintro q9 H' n' hc
   exact hc.up (fun p9 he => by rw [Yu he] at hr; exact hr) (by omega) (fun k e1 e2 e3 => by rw [ME _ _ (by omega), hl2 k e2 e3]; exact hl1 k e2 e3)
  rintro rr H3 n9 hc
  obtain ⟨_, v3, he, h3, rfl, hl3⟩ := hc.got (by omega) (by omega) hne
  obtain ⟨x3, hx3, hy⟩ := map_ok he
  cases hy
  have hI3 := (Q8 ht (by decide) hI2 (w := x3.1) (s' := x3.2) hx3).1
  simp only [hx3, QW] at hr
  have hR1 := h3.r
  unfold qdO at hR1
  have hB1 : H3 n = some (.arr 0 1 [.str x2.1]) := (hl3 _ (by omega) (by omega)).trans (by simp only [MF]; (repeat rw [if_neg (by omega)]); simp)
  simp only [go_sem, seval, wdAV]
  apply Y; clear Y K
  refine Za zs [2] fun K Y => ?_
  simp only [go_sem, seval]
  apply Y; clear Y K
  refine Zf ?_
  simp only [go_sem, seval]
  exact QdE.ok hr (h3.on (ME _ _ (by omega)) (ME _ _ (by omega)) (Nat.le_refl _)) hko (fun k e1 e2 e3 => by rw [ME _ _ (by omega), hl3 k e2 e3, ME _ _ (by omega), hl2 k e2 e3]; exact hl1 k e2 e3) (.fn .nil (.cons (Wi ((ME _ _ (by omega)).trans hB1) (by omega) (.kl trivial)) (.cons (Wi (MG _ _ _) (by omega) (.kl trivial)) .nil)))
 rw [if_neg (by rw [hb]; simp), er_map] at hr
 refine Zd ?_
 simp only [go_sem, seval]
 apply hK1
 clear hK1 K1
 refine Za zs [] fun K Y => ?_
 simp only [go_sem, seval, hR1, wdAV]
 refine Zi (args' := [.int .i64 s.nxt.pos]) func163 rfl rfl rfl (Yq s.nxt.pos _ _) ?_ ?_
 ·rintro rr H' n' ⟨rfl, rfl, h1⟩
  cases h1
 rintro q9 H' n' ⟨rfl, rfl, h1⟩
 cases h1
 exact QdE.err hr (by omega) (fun k e1 e2 e3 => by rfl)
end Go.Proofs.YtifnhpmeoogedaaGreatDoor