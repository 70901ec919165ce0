/- Own layer: the entries and schemas of the store as plain data, and as abstract values. Of every program; no condition. -/
import Derived.Test.YtijhkfhflpmajaaOB
import Derived.Lib.Bytealg
import Derived.Test.YtijhkfhflpmajaaOC
set_option linter.unusedSimpArgs false
set_option linter.unusedVariables false
namespace Go.Rt
open Go Go.Sx

structure Ent where
  row : List UInt8
  fam : Int
  qual : List UInt8
  ts : Int
  seq : Int
  kind : Int
  value : List UInt8
  deriving DecidableEq, Inhabited

structure Fml where
  name : List UInt8
  max : Int
  ttl : Int
  deriving DecidableEq, Inhabited

def bys (b : List UInt8) : AV := .sl 1 (b.map byteAV)
def i64 (n : Int) : AV := .int .i64 n
def entAV (e : Ent) : AV := .agg [bys e.row, .int .i64 e.fam, bys e.qual, .int .i64 e.ts, .int .i64 e.seq, .int .i64 e.kind, bys e.value]
def entsAV (l : List Ent) : AV := .sl 7 (l.map entAV)
def famAV (f : Fml) : AV := .agg [.str f.name, .int .i64 f.max, .int .i64 f.ttl]
def schAV (s : List Fml) : AV := .agg [.sl 3 (s.map famAV)]

theorem bys_isByte (b : List UInt8) : ∀ x ∈ b.map byteAV, isByte x := fun x hx => by
  obtain ⟨y, _, rfl⟩ := List.mem_map.1 hx
  simp only [byteAV, isByte]
  have := y.toNat_lt
  omega
theorem byteOf_byteAV (b : UInt8) : byteOf' (byteAV b) = b := by simp [byteOf', byteAV]
theorem map_byteOf (b : List UInt8) : (b.map byteAV).map byteOf' = b := by
  rw [List.map_map]; conv => rhs; rw [← List.map_id b]
  exact List.map_congr_left fun x _ => byteOf_byteAV x

theorem entAV_sz (e : Ent) : (entAV e).sz = 7 := by simp [entAV, AV.sz, AV.szs, bys]
theorem famAV_sz (e : Fml) : (famAV e).sz = 3 := by simp [famAV, AV.sz, AV.szs]
theorem entAV_isAgg (e : Ent) : (entAV e).isAgg = true := rfl
theorem entAV_memOK (e : Ent) : (entAV e).memOK = true := rfl
theorem nth_map {α : Type} [Inhabited α] (f : α → AV) (l : List α) (i : Nat) (h : i < l.length) : nth (l.map f) i = f (l.getD i default) := by
  simp [nth, List.getD, List.getElem?_eq_getElem h]

def iv : AV → Nat
  | .int _ n => n.toNat
  | _ => 0
theorem iv_int (k : IntKind) (n : Int) : iv (.int k n) = n.toNat := rfl
theorem k2 (n : Nat) : n + 1 + 1 = n + 2 := rfl
theorem k3 (n : Nat) : n + 2 + 1 = n + 3 := rfl
theorem k4 (n : Nat) : n + 3 + 1 = n + 4 := rfl
theorem k5 (n : Nat) : n + 4 + 1 = n + 5 := rfl
theorem k6 (n : Nat) : n + 5 + 1 = n + 6 := rfl
theorem k7 (n : Nat) : n + 6 + 1 = n + 7 := rfl
theorem k8 (n : Nat) : n + 7 + 1 = n + 8 := rfl
theorem k9 (n : Nat) : n + 8 + 1 = n + 9 := rfl
theorem k10 (n : Nat) : n + 9 + 1 = n + 10 := rfl
theorem k11 (n : Nat) : n + 10 + 1 = n + 11 := rfl
theorem k12 (n : Nat) : n + 11 + 1 = n + 12 := rfl
theorem k13 (n : Nat) : n + 12 + 1 = n + 13 := rfl
theorem k14 (n : Nat) : n + 13 + 1 = n + 14 := rfl
theorem k15 (n : Nat) : n + 14 + 1 = n + 15 := rfl
theorem k16 (n : Nat) : n + 15 + 1 = n + 16 := rfl
theorem k17 (n : Nat) : n + 16 + 1 = n + 17 := rfl
theorem k18 (n : Nat) : n + 17 + 1 = n + 18 := rfl
theorem k19 (n : Nat) : n + 18 + 1 = n + 19 := rfl
theorem k20 (n : Nat) : n + 19 + 1 = n + 20 := rfl
theorem k21 (n : Nat) : n + 20 + 1 = n + 21 := rfl
theorem k22 (n : Nat) : n + 21 + 1 = n + 22 := rfl
theorem k23 (n : Nat) : n + 22 + 1 = n + 23 := rfl
theorem k24 (n : Nat) : n + 23 + 1 = n + 24 := rfl
theorem kne0 (n k : Nat) : (n = n + (k + 1)) = False := by simp
theorem kne1 (n k : Nat) : (n + (k + 1) = n) = False := by simp
theorem put2 (H : Heap) (k : Nat) (a b : Option AObj) : (H.put k a).put k b = H.put k b := by funext j; simp only [Heap.put]; split <;> rfl
theorem nlt1 (n k : Nat) : (n + k < n) = False := by simp
theorem wBS_own (P : Program) (z : TypeId → AV) (H : Heap) (n : Nat) (T : Nat → AV) (t : TypeId) (len : Nat) (ps : List (Nat × Operand)) : wBS P z H n T t len ps.toArray (.bool true) = wBSl P H n t len (ps.map (·.1)) (ps.map fun p => evO T p.2) := rfl
theorem wBS_ro (P : Program) (z : TypeId → AV) (H : Heap) (n : Nat) (T : Nat → AV) (t : TypeId) (len : Nat) (ps : Array (Nat × Operand)) : wBS P z H n T t len ps .junk = (opQ P z H true T (.buildSlice t len ps)).map fun r => (r.1, r.2, H, n) := rfl
attribute [go_sem] wBS_own wBS_ro Option.map_some Option.map_none
attribute [go_sem] k2 k3 k4 k5 k6 k7 k8 k9 k10 k11 k12 k13 k14 k15 k16 k17 k18 k19 k20 k21 k22 k23 k24 kne0 kne1 List.nil_append List.cons_append List.take_succ_cons List.take_zero List.set_cons_zero List.set_cons_succ Nat.zero_add Nat.add_zero Nat.zero_mul Nat.one_mul Nat.mul_one ne_eq not_false_eq_true AV.memOK.eq_5 put2 nlt1
attribute [go_sem] entAV bys famAV schAV entsAV byteAV iv_int
end Go.Rt

namespace Go.Rt
open Go Go.Sx

theorem w64 {n : Int} (h : -9223372036854775808 ≤ n) (h' : n < 9223372036854775808) : IntKind.i64.wrap n = n := by
  rw [IntKind.wrap_i64]; omega
theorem drop_cons {α : Type} [Inhabited α] (l : List α) (i : Nat) (h : i < l.length) : l.drop i = l.getD i default :: l.drop (i + 1) := by
  rw [List.drop_eq_getElem_cons h]; simp [List.getD, List.getElem?_eq_getElem h]
theorem Frz.eq {H : Heap} {n : Nat} {a b : AV} (h : a = b) (hk : a.kl n) : Frz H n a b := h ▸ .kl hk

def bout (x lo hi : Int) : Bool := decide (x < lo) || decide (hi < x)

def badQ (e : Ent) : Bool := bif decide (256 < (e.qual.length : Int)) then true else bif e.kind == 5 then decide (0 < (e.qual.length : Int)) else false
def badV (e : Ent) : Bool := bif decide (4096 < (e.value.length : Int)) then true else bif e.kind != 1 then decide (0 < (e.value.length : Int)) else false
def checkE (e : Ent) : Int :=
  if bout e.row.length 1 256 then 20
  else if bout e.fam 0 7 then 21
  else if badQ e then 22
  else if bout e.ts 1 1099511627776 then 23
  else if bout e.seq 0 17592186044431 then 24
  else if bout e.kind 1 5 then 25
  else if badV e then 26
  else 0

def checkedE (s : List Fml) (e : Ent) : Int := if checkE e ≠ 0 then checkE e else if (s.length : Int) ≤ e.fam then 21 else 0

def letterB (b : UInt8) : Bool := decide (97 ≤ (b.toNat : Int)) && decide ((b.toNat : Int) ≤ 122)
def nameB (b : UInt8) : Bool := !(bif (bif !letterB b then (bif decide ((b.toNat : Int) < 48) then true else decide (57 < (b.toNat : Int))) else false) then ((b.toNat : Int) != 95) else false)
def namedB (s : List UInt8) : Bool := !(bout s.length 1 32) && letterB (s.getD 0 0) && s.all nameB

def famIx : List Fml → List UInt8 → Nat → Int
  | [], _, _ => -1
  | f :: l, name, i => if f.name = name then i else famIx l name (i + 1)

def famBad (all : List Fml) (f : Fml) (i : Nat) : Bool := !(namedB f.name) || famIx all f.name 0 != (i : Int) || bout f.max 1 16 || bout f.ttl 0 1099511627776
def famsBad (all : List Fml) : List Fml → Nat → Bool
  | [], _ => false
  | f :: l, i => famBad all f i || famsBad all l (i + 1)
def schemaE (s : List Fml) : Int := if bout s.length 1 8 then 28 else if famsBad s s 0 then 28 else 0
theorem w1 {i : Nat} (h : i < 4611686018427387904) : IntKind.i64.wrap ((i : Int) + 1) = ((i + 1 : Nat) : Int) := by
  rw [w64 (by omega) (by omega)]; omega
theorem bout_false {x lo hi : Int} (h : bout x lo hi = false) : lo ≤ x ∧ x ≤ hi := by simp [bout] at h; omega
end Go.Rt
namespace Go.Rt
open Go Go.Sx

def sameE (a b : Ent) : Bool := decide (a = b)
def sameFamE (a b : Ent) : Bool := a.fam == b.fam && a.row == b.row
def sameColE (a b : Ent) : Bool := sameFamE a b && (a.kind != 5) && (b.kind != 5) && a.qual == b.qual
def Ent.fits (e : Ent) : Prop := e.row.length ≤ 140737488355328 ∧ e.qual.length ≤ 140737488355328 ∧ e.value.length ≤ 140737488355328

def cmpI (x y : Int) : Int := if x < y then -1 else if y < x then 1 else 0
def firstI (kk : Int) (a b : Ent) : Int := if a.kind = kk then (if b.kind = kk then 0 else -1) else (if b.kind = kk then 1 else 0)
def stepE (i : Nat) (a b : Ent) : Int :=
  match i with
  | 0 => Lib.compareBytes a.row b.row
  | 1 => cmpI a.fam b.fam
  | 2 => firstI 5 a b
  | 3 => Lib.compareBytes a.qual b.qual
  | 4 => firstI 4 a b
  | 5 => cmpI b.ts a.ts
  | 6 => cmpI b.seq a.seq
  | 7 => cmpI a.kind b.kind
  | _ => 0
def compFrom (a b : Ent) : Nat → Int
  | 0 => 0
  | k + 1 => if stepE (7 - k) a b ≠ 0 then stepE (7 - k) a b else compFrom a b k
def compE (a b : Ent) : Int := compFrom a b 8

theorem sameE_eq (a b : Ent) : sameE a b = (a.fam == b.fam && a.ts == b.ts && a.seq == b.seq && a.kind == b.kind && a.row == b.row && a.qual == b.qual && a.value == b.value) := by
  unfold sameE
  rw [Bool.eq_iff_iff]
  simp only [decide_eq_true_eq, Bool.and_eq_true, beq_iff_eq]
  constructor
  · rintro rfl; simp
  · rintro ⟨⟨⟨⟨⟨⟨h1, h2⟩, h3⟩, h4⟩, h5⟩, h6⟩, h7⟩
    cases a; cases b; simp_all
end Go.Rt
namespace Go.Rt
open Go Go.Sx

theorem kls_bytes (b : List UInt8) (n : Nat) : AV.kls n (b.map byteAV) := by
  rw [AV.kls_iff]; intro x hx
  obtain ⟨y, _, rfl⟩ := List.mem_map.1 hx
  trivial
theorem kl_bys (b : List UInt8) (n : Nat) : (bys b).kl n := kls_bytes b n
theorem kl_ent (e : Ent) (n : Nat) : (entAV e).kl n := ⟨kl_bys _ _, trivial, kl_bys _ _, trivial, trivial, trivial, kl_bys _ _, trivial⟩
theorem kls_ents (l : List Ent) (n : Nat) : AV.kls n (l.map entAV) := by
  rw [AV.kls_iff]; intro x hx
  obtain ⟨y, _, rfl⟩ := List.mem_map.1 hx
  exact kl_ent y n
theorem kls_fams (l : List Fml) (n : Nat) : AV.kls n (l.map famAV) := by
  rw [AV.kls_iff]; intro x hx
  obtain ⟨y, _, rfl⟩ := List.mem_map.1 hx
  exact ⟨trivial, trivial, trivial, trivial⟩
theorem kl_sch (l : List Fml) (n : Nat) : (schAV l).kl n := ⟨kls_fams l n, trivial⟩

theorem relF_bytes {c : Ctx} : ∀ (b : List UInt8) (ds : List Value), RelF c (b.map byteAV) ds → ds = b.map fun x => .int .u8 x.toNat
  | [], ds, h => by simpa [RelF] using h
  | x :: b, ds, h => by
    simp only [List.map_cons, RelF] at h
    obtain ⟨c1, c2, e, h1, h2⟩ := h
    simp only [byteAV, Rel] at h1
    rw [e, h1, relF_bytes b c2 h2]; rfl

theorem run_bytesOf_bys {P : Program} {c : Ctx} {H : Heap} {n : Nat} {w : World} (hs : Sim c H n w) {b : List UInt8} {v : Value} (h : Rel c (bys b) false [v]) : (Extern.Bytes.bytesOf v).run P w = .ok ⟨b.toArray⟩ w := by
  simp only [bys, Rel, List.cons.injEq, and_true] at h
  obtain ⟨a, cap, rfl, _, _, hx⟩ := h
  rcases hx with hx | ⟨bb, off, arr, ds, rfl, hb, hr, ha⟩
  · have hb : b = [] := by simpa using hx
    subst hb
    cases a <;> rfl
  · obtain ⟨ty, fr, hw⟩ := hs.ro bb arr hb
    have hds := relF_bytes b ds hr
    subst hds
    have := Lib.run_loadBytesX (P := P) w (b.map fun x => (x.toNat : Int)) ⟨bb, off, none⟩ .empty (fun j x hj => by
      rw [Addr.add_plain]; simp only [World.cell?, hw]
      have := ha j (.int .u8 x) (by simp at hj ⊢; obtain ⟨y, hy, e⟩ := hj; exact ⟨y, hy, e⟩)
      simpa using this)
    simp only [List.length_map] at this ⊢
    show (Extern.Bytes.loadBytes ⟨bb, off, none⟩ b.length .empty).run P w = _
    rw [this]
    congr 1
    apply ByteArray.ext
    show (#[] : Array UInt8) ++ (Lib.bytesOf (b.map fun x => (x.toNat : Int))).toArray = b.toArray
    simp [Lib.bytesOf, List.map_map, Function.comp_def]

theorem ext_bytesCompare {P : Program} {f : FuncId} {fn : Func} {H : Heap} {n : Nat} {k : AV → Heap → Nat → Prop} (hf : P.funcs[f]? = some fn) (hb : fn.body = none) (hn : (fn.name == "runtime.NumGoroutine") = false)
    (h1 : (Extern.findNext fn).isNone = true) (h2 : Extern.find fn = some Extern.BytealgCompare.compare) (a b : List UInt8) (hk : k (.int .i64 (Lib.compareBytes a b)) H n) : ExtC P f [bys a, bys b] H n k := fun c w vs hs hr => by
  simp only [RelT] at hr
  obtain ⟨v1, _, rfl, hr1, v2, _, rfl, hr2, rfl⟩ := hr
  have h1' : Extern.findNext fn = none := by simpa using h1
  refine ⟨_, .int .i64 (Lib.compareBytes a b), c, H, n, w, ?_, .refl hs, by simp [Rel], hk⟩
  have hc : (Extern.BytealgCompare.compare #[v1, v2]).run P w = .ok (.int .i64 (Lib.compareBytes a b)) w := by
    change Sem.run P (do pure (goInt (Extern.BytealgCompare.cmp (← Extern.Bytes.bytesOf v1) (← Extern.Bytes.bytesOf v2)))) w = _
    simp only [Sem.run_bind, run_bytesOf_bys hs hr1, run_bytesOf_bys hs hr2, Result.andThen_ok, Sem.run_pure]
    rw [Lib.cmp_eq]
    rfl
  have hn' : ¬ fn.name = "runtime.NumGoroutine" := by simpa using hn
  simp [callFunc, hf, hn', hb, h1', h2, hc]
end Go.Rt
namespace Go.Rt
open Go Go.Sx

theorem famsBad_cons (all l : List Fml) (f : Fml) (i : Nat) : famsBad all (f :: l) i = (famBad all f i || famsBad all l (i + 1)) := rfl
def timesBad (l : List Int) : Bool := l.any fun t => bout t 0 1099511627776
def boundsE (s : List Fml) (clock : Int) (times : List Int) (k : Int) : Int :=
  if schemaE s ≠ 0 then schemaE s else if timesBad (clock :: times) then 32 else if bout k 1 16 then 32 else 0
def intsAV (l : List Int) : AV := .sl 1 (l.map fun x => .int .i64 x)
attribute [go_sem] intsAV
end Go.Rt

namespace Go.Sx
variable {α : Type}

/-- the element at a place -/
def atL [Inhabited α] (l : List α) (i : Nat) : α := l.getD i default
def swapL [Inhabited α] (l : List α) (i j : Nat) : List α := (l.set i (atL l j)).set j (atL l i)
/-- n swaps, one behind the other -/
def swapN [Inhabited α] (l : List α) (p q : Nat → Nat) : Nat → List α
  | 0 => l
  | n + 1 => swapL (swapN l p q n) (p n) (q n)

theorem swapL_length [Inhabited α] (l : List α) (i j : Nat) : (swapL l i j).length = l.length := by simp [swapL]
theorem swapN_length [Inhabited α] (l : List α) (p q : Nat → Nat) (n : Nat) : (swapN l p q n).length = l.length := by
  induction n with
  | zero => rfl
  | succ n ih => simp [swapN, swapL_length, ih]

theorem atL_pre [Inhabited α] (p : List α) (x : α) (s : List α) : atL (p ++ x :: s) p.length = x := by
  simp [atL, List.getD]

theorem atL_of [Inhabited α] {l p s : List α} {x : α} {i : Nat} (h : l = p ++ x :: s) (hi : i = p.length) : atL l i = x := by subst h hi; exact atL_pre p x s

theorem swapL_mid [Inhabited α] (p : List α) (x : α) (q : List α) (y : α) (s : List α) :
    swapL (p ++ x :: (q ++ y :: s)) p.length (p.length + 1 + q.length) = p ++ y :: (q ++ x :: s) := by
  have h1 : atL (p ++ x :: (q ++ y :: s)) (p.length + 1 + q.length) = y :=
    atL_of (p := p ++ x :: q) (s := s) (by simp) (by simp; omega)
  have e1 : p.length + 1 + q.length - p.length = q.length + 1 := by omega
  have e2 : q.length - q.length = 0 := by omega
  rw [swapL, atL_pre, h1, List.set_append_right _ _ (Nat.le_refl _), Nat.sub_self, List.set_cons_zero, List.set_append_right _ _ (by omega), e1, List.set_cons_succ, List.set_append_right _ _ (Nat.le_refl _), e2, List.set_cons_zero]

theorem swapL_down [Inhabited α] (p : List α) (x : α) (q : List α) (y : α) (s : List α) :
    swapL (p ++ x :: (q ++ y :: s)) (p.length + 1 + q.length) p.length = p ++ y :: (q ++ x :: s) := by
  have h1 : atL (p ++ x :: (q ++ y :: s)) (p.length + 1 + q.length) = y :=
    atL_of (p := p ++ x :: q) (s := s) (by simp) (by simp; omega)
  have e1 : p.length + 1 + q.length - p.length = q.length + 1 := by omega
  have e2 : q.length - q.length = 0 := by omega
  rw [swapL, atL_pre, h1, List.set_append_right _ _ (by omega : p.length ≤ p.length + 1 + q.length), e1, List.set_cons_succ, List.set_append_right _ _ (Nat.le_refl _), List.set_append_right _ _ (Nat.le_refl _), Nat.sub_self, Nat.sub_self, List.set_cons_zero, List.set_cons_zero]

theorem concat_of {l : List α} {n : Nat} (h : l.length = n + 1) : ∃ c y, l = c ++ [y] ∧ c.length = n := by
  rcases List.eq_nil_or_concat l with h0 | ⟨c, y, rfl⟩
  · subst h0; simp at h
  · exact ⟨c, y, by simp, by simpa using h⟩

theorem swapN_up [Inhabited α] (p : List α) (x : α) : ∀ (n : Nat) (B s : List α), B.length = n →
    swapN (p ++ x :: (B ++ s)) (fun i => p.length + i) (fun i => p.length + i + 1) n = p ++ (B ++ x :: s) := by
  intro n
  induction n with
  | zero => intro B s h; have : B = [] := List.length_eq_zero_iff.1 h; subst this; simp [swapN]
  | succ n ih =>
    intro B s h
    obtain ⟨c, y, rfl, hc⟩ := concat_of h
    have h2 := ih c (y :: s) hc
    rw [swapN]
    have e : (p ++ x :: (c ++ [y] ++ s)) = p ++ x :: (c ++ y :: s) := by simp
    rw [e, h2]
    have := swapL_mid (p ++ c) x [] y s
    simp only [List.length_append, List.length_nil, Nat.add_zero, List.nil_append, List.append_assoc, hc] at this
    rw [this]
    simp

theorem swapN_down [Inhabited α] (p : List α) (x : α) : ∀ (n : Nat) (B s : List α), B.length = n →
    swapN (p ++ (B ++ x :: s)) (fun i => p.length + n - i) (fun i => p.length + n - i - 1) n = p ++ x :: (B ++ s) := by
  suffices h : ∀ (n k : Nat) (C B s : List α), B.length = k → C.length = n →
      swapN (p ++ (C ++ B ++ x :: s)) (fun i => p.length + (n + k) - i) (fun i => p.length + (n + k) - i - 1) k = p ++ (C ++ x :: (B ++ s)) by
    intro n B s hB
    have := h 0 n [] B s hB rfl
    simpa using this
  intro n k
  induction k generalizing n with
  | zero => intro C B s h hc; have : B = [] := List.length_eq_zero_iff.1 h; subst this; simp [swapN]
  | succ k ih =>
    intro C B s h hc
    cases B with
    | nil => simp at h
    | cons y B =>
      have h2 := ih (n + 1) (C ++ [y]) B s (by simpa using h) (by simp [hc])
      have e1 : n + 1 + k = n + (k + 1) := by omega
      rw [e1] at h2
      rw [swapN]
      have e : (p ++ (C ++ y :: B ++ x :: s)) = p ++ (C ++ [y] ++ B ++ x :: s) := by simp
      rw [e, h2]
      have := swapL_down (p ++ C) y [] x (B ++ s)
      simp only [List.length_append, List.length_nil, Nat.add_zero, List.nil_append, List.append_assoc, hc] at this
      have e3 : p.length + (n + (k + 1)) - k = p.length + n + 1 := by omega
      have e4 : p.length + (n + (k + 1)) - k - 1 = p.length + n := by omega
      rw [e4, e3]
      simp only [List.append_assoc, List.cons_append, List.nil_append] at this ⊢
      rw [this]

theorem swapN_range [Inhabited α] (p : List α) : ∀ (n : Nat) (X m Y s : List α), X.length = n → Y.length = n →
    swapN (p ++ (X ++ (m ++ (Y ++ s)))) (fun i => p.length + i) (fun i => p.length + n + m.length + i) n = p ++ (Y ++ (m ++ (X ++ s))) := by
  suffices h : ∀ (n : Nat) (b : Nat) (X m Y s : List α), X.length = n → Y.length = n → b = p.length + n + m.length →
    swapN (p ++ (X ++ (m ++ (Y ++ s)))) (fun i => p.length + i) (fun i => b + i) n = p ++ (Y ++ (m ++ (X ++ s))) by
    intro n X m Y s hx hy; exact h n _ X m Y s hx hy rfl
  intro n
  induction n with
  | zero =>
    intro b X m Y s hx hy _
    have : X = [] := List.length_eq_zero_iff.1 hx
    have : Y = [] := List.length_eq_zero_iff.1 hy
    subst_vars; simp [swapN]
  | succ n ih =>
    intro b X m Y s hx hy hb
    obtain ⟨c, x, rfl, hc⟩ := concat_of hx
    obtain ⟨d, y, rfl, hd⟩ := concat_of hy
    have h2 := ih b c (x :: m) d (y :: s) hc hd (by simp; omega)
    rw [swapN]
    have e : (p ++ (c ++ [x] ++ (m ++ (d ++ [y] ++ s)))) = p ++ (c ++ (x :: m ++ (d ++ y :: s))) := by simp
    rw [e, h2]
    have := swapL_mid (p ++ d) x (m ++ c) y s
    have e4 : (p ++ d).length = p.length + n := by simp [hd]
    have e5 : (p ++ d).length + 1 + (m ++ c).length = b + n := by simp [hd, hc]; omega
    rw [e5, e4] at this
    simp only [List.append_assoc, List.cons_append, List.nil_append] at this ⊢
    rw [this]

/-- binary search -/
def bsL (f : Nat → Bool) (i j : Nat) : Nat := if h : i < j then (if f ((i + j) / 2) then bsL f ((i + j) / 2 + 1) j else bsL f i ((i + j) / 2)) else i
termination_by j - i
decreasing_by all_goals omega

theorem bsL_step (f : Nat → Bool) {i j : Nat} (h : i < j) : bsL f i j = if f ((i + j) / 2) then bsL f ((i + j) / 2 + 1) j else bsL f i ((i + j) / 2) := by
  rw [bsL, dif_pos h]
theorem bsL_done (f : Nat → Bool) {i j : Nat} (h : ¬ i < j) : bsL f i j = i := by rw [bsL, dif_neg h]

theorem bsL_spec (f : Nat → Bool) : ∀ (k i j : Nat), j - i ≤ k → i ≤ j →
    i ≤ bsL f i j ∧ bsL f i j ≤ j ∧ (i < bsL f i j → f (bsL f i j - 1) = true) ∧ (bsL f i j < j → f (bsL f i j) = false) := by
  intro k
  induction k with
  | zero => intro i j h1 h2; rw [bsL_done f (by omega)]; refine ⟨Nat.le_refl _, h2, fun h => absurd h (by omega), fun h => absurd h (by omega)⟩
  | succ k ih =>
    intro i j h1 h2
    by_cases hij : i < j
    · rw [bsL_step f hij]
      cases hf : f ((i + j) / 2) with
      | true =>
        simp only [if_true]
        obtain ⟨a, b, c, d⟩ := ih ((i + j) / 2 + 1) j (by omega) (by omega)
        refine ⟨by omega, b, fun h => ?_, d⟩
        by_cases e : (i + j) / 2 + 1 < bsL f ((i + j) / 2 + 1) j
        · exact c e
        · have : bsL f ((i + j) / 2 + 1) j - 1 = (i + j) / 2 := by omega
          rw [this]; exact hf
      | false =>
        simp only [Bool.false_eq_true, if_false]
        obtain ⟨a, b, c, d⟩ := ih i ((i + j) / 2) (by omega) (by omega)
        refine ⟨a, by omega, c, fun h => ?_⟩
        by_cases e : bsL f i ((i + j) / 2) < (i + j) / 2
        · exact d e
        · have : bsL f i ((i + j) / 2) = (i + j) / 2 := by omega
          rw [this]; exact hf
    · rw [bsL_done f hij]; refine ⟨Nat.le_refl _, h2, fun h => absurd h (by omega), fun h => absurd h (by omega)⟩

/-- rotation by swaps of blocks; `c` bounds the rounds -/
def rotL [Inhabited α] : Nat → List α → Nat → Nat → Nat → List α
  | 0, l, _, _, _ => l
  | c + 1, l, m, i, j =>
    if i = j then swapN l (fun k => m - i + k) (fun k => m + k) i
    else if i > j then rotL c (swapN l (fun k => m - i + k) (fun k => m + k) j) m (i - j) j
    else rotL c (swapN l (fun k => m - i + k) (fun k => m + j - i + k) i) m i (j - i)

theorem rotL_length [Inhabited α] : ∀ (c : Nat) (l : List α) (m i j : Nat), (rotL c l m i j).length = l.length := by
  intro c
  induction c with
  | zero => intros; rfl
  | succ c ih =>
    intro l m i j; rw [rotL]; repeat' split
    all_goals simp [swapN_length, ih]

theorem split_at {l : List α} {n k : Nat} (h : l.length = n) (hk : k ≤ n) : ∃ a b, l = a ++ b ∧ a.length = k ∧ b.length = n - k :=
  ⟨l.take k, l.drop k, (List.take_append_drop k l).symm, by simp; omega, by simp; omega⟩

theorem rotL_ok [Inhabited α] : ∀ (c : Nat) (p A B s : List α) (m : Nat), A.length + B.length ≤ c → 0 < A.length → 0 < B.length → m = p.length + A.length →
    rotL c (p ++ (A ++ (B ++ s))) m A.length B.length = p ++ (B ++ (A ++ s)) := by
  intro c
  induction c with
  | zero => intro p A B s m h h1 _ _; omega
  | succ c ih =>
    intro p A B s m h h1 h2 hm
    rw [rotL]
    split
    · rename_i he
      have := swapN_range p A.length A [] B s rfl he.symm
      simp only [List.nil_append, List.length_nil, Nat.add_zero] at this
      have e : m - A.length = p.length := by omega
      rw [e, hm]; exact this
    · rename_i hne
      split
      · rename_i hgt
        obtain ⟨A1, A2, rfl, hA1, hA2⟩ := split_at (l := A) (k := B.length) rfl (by omega)
        have := swapN_range p B.length A1 A2 B s hA1 rfl
        have e : m - (A1 ++ A2).length = p.length := by omega
        rw [e]
        have e2 : p.length + B.length + A2.length = m := by simp [hA1] at hm; omega
        rw [e2] at this
        simp only [List.append_assoc] at this ⊢
        rw [this]
        have h3 := ih (p ++ B) A2 A1 s m (by simp at h; omega) (by omega) (by omega) (by simp at hm ⊢; omega)
        simp only [List.append_assoc] at h3
        have e6 : (A1 ++ A2).length - B.length = A2.length := by simp; omega
        rw [e6, ← hA1, h3]
      · rename_i hlt
        obtain ⟨B1, B2, hB, hB1, hB2⟩ := split_at (l := B) (k := B.length - A.length) rfl (by omega)
        have hB3 : B2.length = A.length := by omega
        have := swapN_range p A.length A B1 B2 s rfl hB3
        have e : m - A.length = p.length := by omega
        have e2 : p.length + A.length + B1.length = m + B.length - A.length := by omega
        rw [e2] at this
        have h3 := ih p B2 B1 (A ++ s) m (by omega) (by omega) (by omega) (by omega)
        rw [e, ← hB1, ← hB3]
        rw [hB3, hB, List.append_assoc]
        rw [hB] at this
        rw [this, ← hB3, h3, List.append_assoc]

/-- one element goes down to its place -/
def insL [Inhabited α] (lt : α → α → Bool) (l : List α) (a : Nat) : Nat → List α
  | 0 => l
  | j + 1 => if a < j + 1 ∧ lt (atL l (j + 1)) (atL l j) = true then insL lt (swapL l (j + 1) j) a j else l

theorem insL_length [Inhabited α] (lt : α → α → Bool) (a : Nat) : ∀ (j : Nat) (l : List α), (insL lt l a j).length = l.length := by
  intro j
  induction j with
  | zero => intros; rfl
  | succ j ih => intro l; rw [insL]; split <;> simp [ih, swapL_length]

/-- insertion sort of `[a, a+1+k)` -/
def insN [Inhabited α] (lt : α → α → Bool) (l : List α) (a : Nat) : Nat → List α
  | 0 => l
  | k + 1 => insL lt (insN lt l a k) a (a + 1 + k)

theorem insN_length [Inhabited α] (lt : α → α → Bool) (a k : Nat) (l : List α) : (insN lt l a k).length = l.length := by
  induction k with
  | zero => rfl
  | succ k ih => simp [insN, insL_length, ih]

/-- SymMerge of `[a,m)` and `[m,b)`; the first argument bounds the depth -/
def symL [Inhabited α] (lt : α → α → Bool) : Nat → List α → Nat → Nat → Nat → List α
  | 0, l, _, _, _ => l
  | c + 1, l, a, m, b =>
    if m - a = 1 then swapN l (fun i => a + i) (fun i => a + i + 1) (bsL (fun h => lt (atL l h) (atL l a)) m b - 1 - a)
    else if b - m = 1 then swapN l (fun i => m - i) (fun i => m - i - 1) (m - bsL (fun h => !lt (atL l m) (atL l h)) a m)
    else
      let mid := (a + b) / 2
      let n := mid + m
      let st := bsL (fun c => !lt (atL l (n - 1 - c)) (atL l c)) (if m > mid then n - b else a) (if m > mid then mid else m)
      let en := n - st
      let l1 := if st < m ∧ m < en then rotL (en - st) l m (m - st) (en - m) else l
      let l2 := if a < st ∧ st < mid then symL lt c l1 a st mid else l1
      if mid < en ∧ en < b then symL lt c l2 mid en b else l2

theorem symL_length [Inhabited α] (lt : α → α → Bool) : ∀ (c : Nat) (l : List α) (a m b : Nat), (symL lt c l a m b).length = l.length := by
  intro c
  induction c with
  | zero => intros; rfl
  | succ c ih =>
    intro l a m b
    rw [symL]
    split
    · simp [swapN_length]
    · split
      · simp [swapN_length]
      · dsimp only
        repeat' split
        all_goals simp [ih, rotL_length]

/-- what orders: `le x y` is that y is not below x -/
structure Ord (lt : α → α → Bool) : Prop where
  tr : ∀ x y z, lt y x = false → lt z y = false → lt z x = false
  asym : ∀ x y, lt x y = true → lt y x = false

/-- in order -/
def Srt (lt : α → α → Bool) (l : List α) : Prop := l.Pairwise fun x y => lt y x = false

variable {lt : α → α → Bool}

theorem Srt.take {l : List α} (h : Srt lt l) (n : Nat) : Srt lt (l.take n) := List.Pairwise.sublist (List.take_sublist _ _) h
theorem Srt.drop {l : List α} (h : Srt lt l) (n : Nat) : Srt lt (l.drop n) := List.Pairwise.sublist (List.drop_sublist _ _) h
theorem Srt.left {a b : List α} (h : Srt lt (a ++ b)) : Srt lt a := (List.pairwise_append.1 h).1
theorem Srt.right {a b : List α} (h : Srt lt (a ++ b)) : Srt lt b := (List.pairwise_append.1 h).2.1
theorem Srt.across {a b : List α} (h : Srt lt (a ++ b)) : ∀ x ∈ a, ∀ y ∈ b, lt y x = false := (List.pairwise_append.1 h).2.2

theorem srt_of_across {a b : List α} (ha : Srt lt a) (hb : Srt lt b) (h : ∀ x ∈ a, ∀ y ∈ b, lt y x = false) : Srt lt (a ++ b) :=
  List.pairwise_append.2 ⟨ha, hb, h⟩

/-- the last of the one is not above the first of the other: then it holds of all -/
theorem across_of (O : Ord lt) {a b : List α} (ha : Srt lt a) (hb : Srt lt b)
    (h : ∀ a' x y b', a = a' ++ [x] → b = y :: b' → lt y x = false) : ∀ x ∈ a, ∀ y ∈ b, lt y x = false := by
  intro x hx y hy
  rcases List.eq_nil_or_concat a with h0 | ⟨a', z, rfl⟩
  · subst h0; cases hx
  · cases b with
    | nil => cases hy
    | cons w b' =>
      have hzw := h a' z w b' (by simp) rfl
      have h1 : x = z ∨ lt z x = false := by
        simp at hx
        rcases hx with hx | hx
        · right; simp at ha; exact ha.across x hx z (by simp)
        · exact .inl hx
      have h2 : y = w ∨ lt y w = false := by
        cases hy with
        | head => exact .inl rfl
        | tail _ hy => right; exact (List.pairwise_cons.1 hb).1 y hy
      have h3 : lt w x = false := by rcases h1 with rfl | h1; exact hzw; exact O.tr _ _ _ h1 hzw
      rcases h2 with rfl | h2; exact h3; exact O.tr _ _ _ h3 h2

theorem insL_ok [Inhabited α] (O : Ord lt) : ∀ (j : Nat) (p A : List α) (x : α) (s : List α), j = p.length + A.length → Srt lt A →
    ∃ A1 A2, A = A1 ++ A2 ∧ insL lt (p ++ (A ++ x :: s)) p.length j = p ++ (A1 ++ x :: (A2 ++ s)) ∧ (∀ y ∈ A2, lt x y = true) ∧ (∀ A' y, A1 = A' ++ [y] → lt x y = false) := by
  intro j
  induction j with
  | zero =>
    intro p A x s hj _
    have h1 : A = [] := List.length_eq_zero_iff.1 (by omega)
    subst h1
    exact ⟨[], [], rfl, by simp [insL], by simp, by simp⟩
  | succ j ih =>
    intro p A x s hj hA
    rcases List.eq_nil_or_concat A with h0 | ⟨A', y, hAe⟩
    · subst h0
      refine ⟨[], [], rfl, ?_, by simp, by simp⟩
      rw [insL, if_neg (by simp at hj; omega)]; simp
    · have hAe : A = A' ++ [y] := by simpa using hAe
      subst hAe
      have e1 : atL (p ++ (A' ++ [y] ++ x :: s)) (j + 1) = x := atL_of (p := p ++ A' ++ [y]) (s := s) (by simp) (by simp at hj ⊢; omega)
      have e2 : atL (p ++ (A' ++ [y] ++ x :: s)) j = y := atL_of (p := p ++ A') (s := x :: s) (by simp) (by simp at hj ⊢; omega)
      rw [insL, e1, e2]
      by_cases hlt : lt x y = true
      · rw [if_pos ⟨by simp at hj; omega, hlt⟩]
        have h3 := swapL_down (p ++ A') y [] x s
        have e4 : (p ++ A').length = j := by simp at hj ⊢; omega
        rw [e4] at h3
        simp only [List.length_nil, Nat.add_zero, List.nil_append, List.append_assoc, List.cons_append] at h3 ⊢
        rw [h3]
        obtain ⟨A1, A2, hs, he, hb, hc⟩ := ih p A' x (y :: s) (by simp at e4; omega) hA.left
        refine ⟨A1, A2 ++ [y], by simp [hs], by rw [he]; simp, ?_, hc⟩
        intro z hz
        simp at hz
        rcases hz with hz | rfl
        · exact hb z hz
        · exact hlt
      · rw [if_neg (by simp [hlt])]
        refine ⟨A' ++ [y], [], by simp, by simp, by simp, ?_⟩
        intro A2 z hz
        have := List.append_inj_right' hz rfl
        simp at this; subst this
        simpa using hlt

theorem insL_srt [Inhabited α] (O : Ord lt) (p A : List α) (x : α) (s : List α) (j : Nat) (hj : j = p.length + A.length) (hA : Srt lt A) :
    ∃ C, insL lt (p ++ (A ++ x :: s)) p.length j = p ++ (C ++ s) ∧ C.Perm (A ++ [x]) ∧ Srt lt C := by
  obtain ⟨A1, A2, rfl, he, hb, hc⟩ := insL_ok O j p A x s hj hA
  refine ⟨A1 ++ x :: A2, by rw [he]; simp, ?_, ?_⟩
  · rw [List.append_assoc]
    refine List.Perm.append_left _ ?_
    have := (List.perm_append_comm (l₁ := [x]) (l₂ := A2))
    simpa using this
  · refine srt_of_across hA.left (List.pairwise_cons.2 ⟨fun y hy => O.asym _ _ (hb y hy), hA.right⟩) ?_
    have h1 := across_of O (a := A1) (b := [x]) hA.left (by simp [Srt]) (fun a' z y b' h1 h2 => by
      simp at h2; obtain ⟨rfl, _⟩ := h2; exact hc a' z h1)
    intro z hz w hw
    rcases List.mem_cons.1 hw with rfl | hw
    · exact h1 z hz _ (by simp)
    · exact hA.across z hz w hw

theorem insN_ok [Inhabited α] (O : Ord lt) : ∀ (k : Nat) (p Y s : List α), Y.length = k + 1 →
    ∃ C, insN lt (p ++ (Y ++ s)) p.length k = p ++ (C ++ s) ∧ C.Perm Y ∧ Srt lt C := by
  intro k
  induction k with
  | zero =>
    intro p Y s h
    refine ⟨Y, rfl, List.Perm.refl _, ?_⟩
    match Y, h with
    | [y], _ => simp [Srt]
  | succ k ih =>
    intro p Y s h
    obtain ⟨c, y, rfl, hc⟩ := concat_of h
    obtain ⟨C, h1, h2, h3⟩ := ih p c (y :: s) hc
    have h4 := h2.length_eq
    obtain ⟨D, h5, h6, h7⟩ := insL_srt O p C y s (p.length + 1 + k) (by omega) h3
    refine ⟨D, ?_, h6.trans (h2.append_right _), h7⟩
    rw [insN]
    have e : p ++ (c ++ [y] ++ s) = p ++ (c ++ y :: s) := by simp
    rw [e, h1, h5]

theorem symL_ok [Inhabited α] (O : Ord lt) : ∀ (c : Nat) (p A B s : List α) (m b : Nat), m = p.length + A.length → b = m + B.length →
    A.length + B.length ≤ c → 0 < A.length → 0 < B.length → Srt lt A → Srt lt B →
    ∃ C, symL lt c (p ++ (A ++ (B ++ s))) p.length m b = p ++ (C ++ s) ∧ C.Perm (A ++ B) ∧ Srt lt C := by
  intro c
  induction c with
  | zero => intro p A B s m b _ _ h h1; omega
  | succ c ih =>
    intro p A B s m b hm hb hc hA0 hB0 hA hB
    rw [symL]
    by_cases c1 : m - p.length = 1
    · rw [if_pos c1]
      match A, hA, hA0, hm, hc, c1 with
      | [], _, h, _, _, _ => simp at h
      | _ :: _ :: _, _, _, hm, _, c1 => simp at hm; omega
      | [x], hA, hA0, hm, hc, c1 =>
      simp only [List.cons_append, List.nil_append, List.length_cons, List.length_nil] at hm ⊢
      have ex : atL (p ++ x :: (B ++ s)) p.length = x := atL_pre _ _ _
      rw [ex]
      obtain ⟨g1, g2, g3, g4⟩ := bsL_spec (fun h => lt (atL (p ++ x :: (B ++ s)) h) x) (b - m) m b (Nat.le_refl _) (by omega)
      generalize hi : bsL (fun h => lt (atL (p ++ x :: (B ++ s)) h) x) m b = i at *
      obtain ⟨B1, B2, rfl, hB1, hB2⟩ := split_at (l := B) (k := i - m) rfl (by omega)
      have h1 := swapN_up p x (i - 1 - p.length) B1 (B2 ++ s) (by omega)
      simp only [List.append_assoc] at h1 ⊢ ex g3 g4
      rw [h1]
      refine ⟨B1 ++ x :: B2, by simp, by simp, ?_⟩
      refine srt_of_across hB.left (List.pairwise_cons.2 ⟨?_, hB.right⟩) ?_
      · have h2 := across_of O (a := [x]) (b := B2) (by simp [Srt]) hB.right (fun a' z y b' e1 e2 => by
          have e1 : a' = [] ∧ z = x := by
            cases a' with
            | nil => simp at e1; exact ⟨rfl, e1.symm⟩
            | cons _ _ => simp at e1
          obtain ⟨rfl, rfl⟩ := e1
          subst e2
          have e3 := g4 (by simp at hB2 hb ⊢; omega)
          rwa [atL_of (p := p ++ z :: B1) (s := b' ++ s) (x := y) (by simp) (by simp; omega)] at e3)
        intro y hy
        exact h2 x (by simp) y hy
      · have h2 := across_of O (a := B1) (b := [x]) hB.left (by simp [Srt]) (fun a' z y b' e1 e2 => by
          simp at e2; obtain ⟨rfl, _⟩ := e2
          subst e1
          have e3 := g3 (by simp at hB1; omega)
          rw [atL_of (p := p ++ x :: a') (s := B2 ++ s) (x := z) (by simp) (by simp at hB1 ⊢; omega)] at e3
          exact O.asym _ _ e3)
        intro z hz w hw
        rcases List.mem_cons.1 hw with rfl | hw
        · exact h2 z hz _ (by simp)
        · exact hB.across z hz w hw
    · rw [if_neg c1]
      by_cases c2 : b - m = 1
      · rw [if_pos c2]
        match B, hB, hB0, hb, hc with
        | [], _, h, _, _ => simp at h
        | _ :: _ :: _, _, _, hb, _ => simp at hb; omega
        | [x], hB, hB0, hb, hc =>
        simp only [List.cons_append, List.nil_append, List.length_cons, List.length_nil] at hb ⊢
        have ex : atL (p ++ (A ++ x :: s)) m = x := atL_of (p := p ++ A) (s := s) (by simp) (by simp; omega)
        rw [ex]
        obtain ⟨g1, g2, g3, g4⟩ := bsL_spec (fun h => !lt x (atL (p ++ (A ++ x :: s)) h)) (m - p.length) p.length m (Nat.le_refl _) (by omega)
        generalize hi : bsL (fun h => !lt x (atL (p ++ (A ++ x :: s)) h)) p.length m = i at *
        obtain ⟨A1, A2, rfl, hA1, hA2⟩ := split_at (l := A) (k := i - p.length) rfl (by omega)
        have h1 := swapN_down (p ++ A1) x (m - i) A2 s (by omega)
        have e5 : (p ++ A1).length + (m - i) = m := by simp; omega
        rw [e5] at h1
        simp only [List.append_assoc] at h1 ⊢ ex g3 g4
        rw [h1]
        refine ⟨A1 ++ x :: A2, by simp, ?_, ?_⟩
        · refine List.Perm.append_left _ ?_
          have := (List.perm_append_comm (l₁ := [x]) (l₂ := A2))
          simpa using this
        refine srt_of_across hA.left (List.pairwise_cons.2 ⟨?_, hA.right⟩) ?_
        · have h2 := across_of O (a := [x]) (b := A2) (by simp [Srt]) hA.right (fun a' z y b' e1 e2 => by
            have e1 : a' = [] ∧ z = x := by
              cases a' with
              | nil => simp at e1; exact ⟨rfl, e1.symm⟩
              | cons _ _ => simp at e1
            obtain ⟨rfl, rfl⟩ := e1
            subst e2
            have e3 := g4 (by simp at hA2 hm ⊢; omega)
            rw [atL_of (p := p ++ A1) (s := b' ++ z :: s) (x := y) (by simp) (by simp; omega)] at e3
            simp at e3
            exact O.asym _ _ e3)
          intro y hy
          exact h2 x (by simp) y hy
        · have h2 := across_of O (a := A1) (b := [x]) hA.left (by simp [Srt]) (fun a' z y b' e1 e2 => by
            simp at e2; obtain ⟨rfl, _⟩ := e2
            subst e1
            have e3 := g3 (by simp at hA1; omega)
            rw [atL_of (p := p ++ a') (s := A2 ++ x :: s) (x := z) (by simp) (by simp at hA1 ⊢; omega)] at e3
            simpa using e3)
          intro z hz w hw
          rcases List.mem_cons.1 hw with rfl | hw
          · exact h2 z hz _ (by simp)
          · exact hA.across z hz w hw
      · rw [if_neg c2]
        dsimp only
        generalize hl : p ++ (A ++ (B ++ s)) = l
        generalize hmid : (p.length + b) / 2 = mid
        generalize hs0 : (if m > mid then mid + m - b else p.length) = s0
        generalize hr0 : (if m > mid then mid else m) = r0
        have hA2' : 2 ≤ A.length := by omega
        have hB2' : 2 ≤ B.length := by omega
        have hsr : s0 ≤ r0 ∧ p.length ≤ s0 ∧ r0 ≤ mid ∧ r0 ≤ m ∧ mid + m - s0 ≤ b ∧ m ≤ mid + m - r0 ∧ mid ≤ mid + m - r0 := by
          subst hs0 hr0; split <;> omega
        obtain ⟨g1, g2, g3, g4⟩ := bsL_spec (fun c => !lt (atL l (mid + m - 1 - c)) (atL l c)) (r0 - s0) s0 r0 (Nat.le_refl _) hsr.1
        generalize hst : bsL (fun c => !lt (atL l (mid + m - 1 - c)) (atL l c)) s0 r0 = st at *
        generalize hen : mid + m - st = en
        obtain ⟨A1, A2, rfl, hA1, hA2⟩ := split_at (l := A) (k := st - p.length) rfl (by omega)
        obtain ⟨B1, B2, rfl, hB1, hB2⟩ := split_at (l := B) (k := en - m) rfl (by omega)
        have h1 : (if st < m ∧ m < en then rotL (en - st) l m (m - st) (en - m) else l) = p ++ (A1 ++ (B1 ++ (A2 ++ (B2 ++ s)))) := by
          split
          · have := rotL_ok (en - st) (p ++ A1) A2 B1 (B2 ++ s) m (by omega) (by omega) (by omega) (by simp; omega)
            have e1 : A2.length = m - st := by omega
            have e2 : B1.length = en - m := by omega
            rw [e1, e2] at this
            rw [← hl]
            simp only [List.append_assoc] at this ⊢
            exact this
          · rw [← hl]
            have : A2 = [] ∨ B1 = [] := by
              by_cases h : A2.length = 0
              · exact .inl (List.length_eq_zero_iff.1 h)
              · exact .inr (List.length_eq_zero_iff.1 (by omega))
            rcases this with rfl | rfl <;> simp
        rw [h1]
        have hA12 : ∀ x ∈ A1, ∀ y ∈ A2, lt y x = false := hA.across
        have hB12 : ∀ x ∈ B1, ∀ y ∈ B2, lt y x = false := hB.across
        have hAB : ∀ x ∈ A1, ∀ y ∈ B2, lt y x = false := across_of O hA.left hB.right (fun a' x y b' e1 e2 => by
          subst e1 e2
          by_cases hlt : s0 < st
          · have e3 := g3 hlt
            have e4 : mid + m - 1 - (st - 1) = en := by omega
            simp only [e4] at e3
            rw [atL_of (l := l) (i := st - 1) (p := p ++ a') (s := A2 ++ (B1 ++ y :: b' ++ s)) (x := x) (by rw [← hl]; simp) (by simp at hA1 ⊢; omega),
              atL_of (l := l) (i := en) (p := p ++ (a' ++ [x] ++ A2) ++ B1) (s := b' ++ s) (x := y) (by rw [← hl]; simp) (by simp at hm hB1 ⊢; omega)] at e3
            simpa using e3
          · simp at hA1 hB2 hb hm hB1
            subst hs0
            split at hlt <;> omega)
        have hBA : ∀ x ∈ B1, ∀ y ∈ A2, lt y x = false := across_of O hB.left hA.right (fun a' x y b' e1 e2 => by
          subst e1 e2
          by_cases hlt : st < r0
          · have e3 := g4 hlt
            have e4 : mid + m - 1 - st = en - 1 := by omega
            simp only [e4] at e3
            rw [atL_of (l := l) (i := st) (p := p ++ A1) (s := b' ++ (a' ++ [x] ++ B2 ++ s)) (x := y) (by rw [← hl]; simp) (by simp at hA1 ⊢; omega),
              atL_of (l := l) (i := en - 1) (p := p ++ (A1 ++ y :: b') ++ a') (s := B2 ++ s) (x := x) (by rw [← hl]; simp) (by simp at hm hB1 ⊢; omega)] at e3
            simp at e3
            exact O.asym _ _ e3
          · exfalso
            simp only [List.length_append, List.length_cons, List.length_nil] at hA2 hB1 hA1 hm hb
            subst hr0
            split at hlt <;> omega)
        have h2 : ∃ C1, (if p.length < st ∧ st < mid then symL lt c (p ++ (A1 ++ (B1 ++ (A2 ++ (B2 ++ s))))) p.length st mid else p ++ (A1 ++ (B1 ++ (A2 ++ (B2 ++ s))))) = p ++ (C1 ++ (A2 ++ (B2 ++ s))) ∧ C1.Perm (A1 ++ B1) ∧ Srt lt C1 := by
          split
          · exact ih p A1 B1 (A2 ++ (B2 ++ s)) st mid (by omega) (by omega) (by omega) (by omega) (by omega) hA.left hB.left
          · refine ⟨A1 ++ B1, by simp, List.Perm.refl _, ?_⟩
            have : A1 = [] ∨ B1 = [] := by
              by_cases h : A1.length = 0
              · exact .inl (List.length_eq_zero_iff.1 h)
              · exact .inr (List.length_eq_zero_iff.1 (by omega))
            rcases this with rfl | rfl
            · simpa using hB.left
            · simpa using hA.left
        obtain ⟨C1, h2, p1, s1⟩ := h2
        rw [h2]
        have lC1 := p1.length_eq
        have h3 : ∃ C2, (if mid < en ∧ en < b then symL lt c (p ++ (C1 ++ (A2 ++ (B2 ++ s)))) mid en b else p ++ (C1 ++ (A2 ++ (B2 ++ s)))) = p ++ (C1 ++ (C2 ++ s)) ∧ C2.Perm (A2 ++ B2) ∧ Srt lt C2 := by
          split
          · have := ih (p ++ C1) A2 B2 s en b (by simp at lC1 ⊢; omega) (by omega) (by omega) (by omega) (by omega) hA.right hB.right
            have e1 : (p ++ C1).length = mid := by simp at lC1 ⊢; omega
            rw [e1] at this
            simpa using this
          · refine ⟨A2 ++ B2, by simp, List.Perm.refl _, ?_⟩
            have : A2 = [] ∨ B2 = [] := by
              by_cases h : A2.length = 0
              · exact .inl (List.length_eq_zero_iff.1 h)
              · exact .inr (List.length_eq_zero_iff.1 (by simp at hb hm; omega))
            rcases this with rfl | rfl
            · simpa using hB.right
            · simpa using hA.right
        obtain ⟨C2, h3, p2, s2⟩ := h3
        rw [h3]
        refine ⟨C1 ++ C2, by simp, ?_, srt_of_across s1 s2 ?_⟩
        · refine (p1.append p2).trans ?_
          simp only [List.append_assoc]
          refine List.Perm.append_left _ ?_
          rw [← List.append_assoc, ← List.append_assoc]
          exact List.Perm.append_right _ List.perm_append_comm
        · intro x hx y hy
          have hx := p1.mem_iff.1 hx
          have hy := p2.mem_iff.1 hy
          rcases List.mem_append.1 hx with hx | hx <;> rcases List.mem_append.1 hy with hy | hy
          · exact hA12 x hx y hy
          · exact hAB x hx y hy
          · exact hBA x hx y hy
          · exact hB12 x hx y hy

/-- blocks of 20, each sorted by insertion -/
def blkL [Inhabited α] (lt : α → α → Bool) (l : List α) : Nat → List α
  | 0 => l
  | t + 1 => insN lt (blkL lt l t) (20 * t) 19
/-- the blocks of `bs` merged two by two -/
def mrgL [Inhabited α] (lt : α → α → Bool) (l : List α) (bs : Nat) : Nat → List α
  | 0 => l
  | t + 1 => symL lt (2 * bs) (mrgL lt l bs t) (2 * bs * t) (2 * bs * t + bs) (2 * bs * t + 2 * bs)
def passL [Inhabited α] (lt : α → α → Bool) (l : List α) (bs n : Nat) : List α :=
  if 2 * bs * (n / (2 * bs)) + bs < n then symL lt (n - 2 * bs * (n / (2 * bs))) (mrgL lt l bs (n / (2 * bs))) (2 * bs * (n / (2 * bs))) (2 * bs * (n / (2 * bs)) + bs) n
  else mrgL lt l bs (n / (2 * bs))
def outL [Inhabited α] (lt : α → α → Bool) (n : Nat) : Nat → List α → Nat → List α
  | 0, l, _ => l
  | c + 1, l, bs => if bs < n then outL lt n c (passL lt l bs n) (2 * bs) else l
def stabL [Inhabited α] (lt : α → α → Bool) (l : List α) : List α :=
  outL lt l.length l.length (insN lt (blkL lt l (l.length / 20)) (20 * (l.length / 20)) (l.length - 20 * (l.length / 20) - 1)) 20

/-- sorted in pieces of `bs` -/
def Pcs (lt : α → α → Bool) (bs : Nat) (l : List α) : Prop := ∀ q, Srt lt ((l.drop (q * bs)).take bs)

theorem srt_nil : Srt lt ([] : List α) := List.Pairwise.nil

theorem blkL_ok [Inhabited α] (O : Ord lt) (l : List α) : ∀ t, 20 * t ≤ l.length → ∃ X, blkL lt l t = X ++ l.drop (20 * t) ∧ X.Perm (l.take (20 * t)) ∧ ∀ q, q < t → Srt lt ((X.drop (q * 20)).take 20) := by
  intro t
  induction t with
  | zero => intro _; exact ⟨[], by simp [blkL], by simp, by intro q hq; omega⟩
  | succ t ih =>
    intro h
    obtain ⟨X, h1, h2, h3⟩ := ih (by omega)
    have hX : X.length = 20 * t := by have := h2.length_eq; simp at this; omega
    obtain ⟨Y, R, hY, hY1, hY2⟩ := split_at (l := l.drop (20 * t)) (n := l.length - 20 * t) (k := 20) (by simp) (by omega)
    obtain ⟨C, h4, h5, h6⟩ := insN_ok O 19 X Y R hY1
    have hC : C.length = 20 := by rw [h5.length_eq, hY1]
    have hR : l.drop (20 * (t + 1)) = R := by
      have : l.drop (20 * (t + 1)) = (l.drop (20 * t)).drop 20 := by rw [List.drop_drop]; congr 1
      rw [this, hY, ← hY1]; simp
    have hT : l.take (20 * (t + 1)) = l.take (20 * t) ++ Y := by
      have : 20 * (t + 1) = 20 * t + 20 := by omega
      rw [this, List.take_add, hY, ← hY1]; simp
    refine ⟨X ++ C, ?_, ?_, ?_⟩
    · rw [blkL, h1, hY, ← hX, h4, hR]; simp
    · rw [hT]; exact h2.append h5
    · intro q hq
      by_cases hqt : q < t
      · have e1 : ((X ++ C).drop (q * 20)).take 20 = (X.drop (q * 20)).take 20 := by
          rw [List.drop_append_of_le_length (by omega), List.take_append_of_le_length (by simp; omega)]
        rw [e1]; exact h3 q hqt
      · have e1 : ((X ++ C).drop (q * 20)).take 20 = C := by
          have : q * 20 = X.length := by omega
          rw [this]; simp [List.take_of_length_le, hC]
        rw [e1]; exact h6

theorem mrgL_ok [Inhabited α] (O : Ord lt) (l : List α) (bs : Nat) (h0 : 0 < bs) (hP : Pcs lt bs l) : ∀ t, 2 * bs * t ≤ l.length →
    ∃ X, mrgL lt l bs t = X ++ l.drop (2 * bs * t) ∧ X.Perm (l.take (2 * bs * t)) ∧ ∀ q, q < t → Srt lt ((X.drop (q * (2 * bs))).take (2 * bs)) := by
  intro t
  induction t with
  | zero => intro _; exact ⟨[], by simp [mrgL], by simp, by intro q hq; omega⟩
  | succ t ih =>
    intro h
    have e0 : 2 * bs * (t + 1) = 2 * bs * t + 2 * bs := by rw [Nat.mul_add, Nat.mul_one]
    obtain ⟨X, h1, h2, h3⟩ := ih (by omega)
    have hX : X.length = 2 * bs * t := by have := h2.length_eq; simp at this; omega
    obtain ⟨A, R, hA, hA1, hA2⟩ := split_at (l := l.drop (2 * bs * t)) (n := l.length - 2 * bs * t) (k := bs) (by simp) (by omega)
    obtain ⟨B, S, rfl, hB1, hB2⟩ := split_at (l := R) (k := bs) rfl (by omega)
    have sA : Srt lt A := by
      have := hP (2 * t)
      have e : 2 * t * bs = 2 * bs * t := by rw [Nat.mul_assoc, Nat.mul_comm t, Nat.mul_assoc]
      rw [e, hA, ← hA1] at this; simpa using this
    have sB : Srt lt B := by
      have := hP (2 * t + 1)
      have e : (2 * t + 1) * bs = 2 * bs * t + bs := by rw [Nat.add_mul, Nat.one_mul, Nat.mul_assoc, Nat.mul_comm t, Nat.mul_assoc]
      rw [e, ← List.drop_drop, hA] at this
      have e2 : (A ++ (B ++ S)).drop bs = B ++ S := by rw [← hA1]; simp
      rw [e2, ← hB1] at this; simpa using this
    obtain ⟨C, h4, h5, h6⟩ := symL_ok O (2 * bs) X A B S (2 * bs * t + bs) (2 * bs * t + 2 * bs) (by omega) (by omega) (by omega) (by omega) (by omega) sA sB
    have hC : C.length = 2 * bs := by rw [h5.length_eq]; simp; omega
    have hR : l.drop (2 * bs * (t + 1)) = S := by
      rw [e0, ← List.drop_drop, hA]
      have : 2 * bs = (A ++ B).length := by simp; omega
      rw [this, ← List.append_assoc]; simp
    have hT : l.take (2 * bs * (t + 1)) = l.take (2 * bs * t) ++ (A ++ B) := by
      have e9 : (A ++ (B ++ S)).take (2 * bs) = A ++ B := by
        rw [← List.append_assoc, show 2 * bs = (A ++ B).length by simp only [List.length_append]; omega]; exact List.take_left
      rw [e0, List.take_add, hA, e9]
    refine ⟨X ++ C, ?_, ?_, ?_⟩
    · rw [mrgL, h1, hA]
      have := h4
      rw [hX] at this
      rw [this, hR]; simp
    · rw [hT]; exact h2.append h5
    · intro q hq
      by_cases hqt : q < t
      · have e9 : q * (2 * bs) + 2 * bs ≤ 2 * bs * t := by
          have : (q + 1) * (2 * bs) ≤ t * (2 * bs) := Nat.mul_le_mul_right _ hqt
          rw [Nat.add_mul, Nat.one_mul, Nat.mul_comm t] at this; exact this
        have e1 : ((X ++ C).drop (q * (2 * bs))).take (2 * bs) = (X.drop (q * (2 * bs))).take (2 * bs) := by
          rw [List.drop_append_of_le_length (by omega), List.take_append_of_le_length (by simp; omega)]
        rw [e1]; exact h3 q hqt
      · have e1 : ((X ++ C).drop (q * (2 * bs))).take (2 * bs) = C := by
          have : q * (2 * bs) = X.length := by rw [hX, Nat.mul_comm]; congr 1; omega
          rw [this]; simp [List.take_of_length_le, hC]
        rw [e1]; exact h6

/-- what the blocks ahead and a sorted rest make -/
theorem pcs_of (bs t : Nat) (X C : List α) (hX : X.length = bs * t) (hC : C.length ≤ bs) (h1 : ∀ q, q < t → Srt lt ((X.drop (q * bs)).take bs)) (h2 : Srt lt C) : Pcs lt bs (X ++ C) := by
  intro q
  by_cases hqt : q < t
  · have e9 : q * bs + bs ≤ bs * t := by
      have : (q + 1) * bs ≤ t * bs := Nat.mul_le_mul_right _ hqt
      rw [Nat.add_mul, Nat.one_mul, Nat.mul_comm t] at this; exact this
    have e1 : ((X ++ C).drop (q * bs)).take bs = (X.drop (q * bs)).take bs := by
      rw [List.drop_append_of_le_length (by omega), List.take_append_of_le_length (by simp; omega)]
    rw [e1]; exact h1 q hqt
  · have : X.length ≤ q * bs := by rw [hX, Nat.mul_comm]; exact Nat.mul_le_mul_right _ (by omega)
    rw [List.drop_append, List.drop_eq_nil_of_le this, List.nil_append]
    exact (h2.drop _).take _

theorem passL_ok [Inhabited α] (O : Ord lt) (l : List α) (bs : Nat) (h0 : 0 < bs) (hP : Pcs lt bs l) : Pcs lt (2 * bs) (passL lt l bs l.length) ∧ (passL lt l bs l.length).Perm l := by
  have hd := Nat.div_add_mod l.length (2 * bs)
  have hlt := Nat.mod_lt l.length (show 2 * bs > 0 by omega)
  obtain ⟨X, h1, h2, h3⟩ := mrgL_ok O l bs h0 hP (l.length / (2 * bs)) (by omega)
  generalize ht : l.length / (2 * bs) = t at *
  have hX : X.length = 2 * bs * t := by have := h2.length_eq; simp at this; omega
  have eA : l.take (2 * bs * t) ++ l.drop (2 * bs * t) = l := List.take_append_drop _ _
  rw [passL, ht]
  split
  · rename_i hlt2
    obtain ⟨A, B, hA, hA1, hA2⟩ := split_at (l := l.drop (2 * bs * t)) (n := l.length - 2 * bs * t) (k := bs) (by simp) (by omega)
    have sA : Srt lt A := by
      have := hP (2 * t)
      have e : 2 * t * bs = 2 * bs * t := by rw [Nat.mul_assoc, Nat.mul_comm t, Nat.mul_assoc]
      rw [e, hA, ← hA1] at this; simpa using this
    have sB : Srt lt B := by
      have := hP (2 * t + 1)
      have e : (2 * t + 1) * bs = 2 * bs * t + bs := by rw [Nat.add_mul, Nat.one_mul, Nat.mul_assoc, Nat.mul_comm t, Nat.mul_assoc]
      rw [e, ← List.drop_drop, hA] at this
      have e2 : (A ++ B).drop bs = B := by rw [← hA1]; simp
      rw [e2, List.take_of_length_le (by omega)] at this; exact this
    obtain ⟨C, h4, h5, h6⟩ := symL_ok O (l.length - 2 * bs * t) X A B [] (2 * bs * t + bs) l.length (by omega) (by omega) (by omega) (by omega) (by omega) sA sB
    rw [hX] at h4
    simp only [List.append_nil] at h4
    rw [h1, hA, h4]
    have hC := h5.length_eq
    simp at hC
    refine ⟨pcs_of (2 * bs) t X C hX (by omega) h3 h6, ?_⟩
    have := h2.append h5
    rw [← hA, eA] at this; exact this
  · rename_i hge
    rw [h1]
    refine ⟨pcs_of (2 * bs) t X _ hX (by simp; omega) h3 ?_, ?_⟩
    · have := hP (2 * t)
      have e : 2 * t * bs = 2 * bs * t := by rw [Nat.mul_assoc, Nat.mul_comm t, Nat.mul_assoc]
      rw [e, List.take_of_length_le (by simp; omega)] at this; exact this
    · have := h2.append_right (l.drop (2 * bs * t))
      rw [eA] at this; exact this

theorem outL_ok [Inhabited α] (O : Ord lt) (n : Nat) : ∀ (c : Nat) (l : List α) (bs : Nat), l.length = n → 0 < bs → n ≤ bs + c → Pcs lt bs l → Srt lt (outL lt n c l bs) ∧ (outL lt n c l bs).Perm l := by
  have fin : ∀ (l : List α) (bs : Nat), l.length = n → n ≤ bs → Pcs lt bs l → Srt lt l := by
    intro l bs hl hb hP
    have := hP 0
    simp [List.take_of_length_le (show l.length ≤ bs by omega)] at this; exact this
  intro c
  induction c with
  | zero => intro l bs hl h0 hn hP; rw [outL]; exact ⟨fin l bs hl hn hP, List.Perm.refl _⟩
  | succ c ih =>
    intro l bs hl h0 hn hP
    rw [outL]
    split
    · have h1 := passL_ok O l bs h0 hP
      rw [hl] at h1
      have h2 := ih (passL lt l bs n) (2 * bs) (by rw [h1.2.length_eq, hl]) (by omega) (by omega) h1.1
      exact ⟨h2.1, h2.2.trans h1.2⟩
    · exact ⟨fin l bs hl (by omega) hP, List.Perm.refl _⟩

theorem stabL_ok [Inhabited α] (O : Ord lt) (l : List α) : Srt lt (stabL lt l) ∧ (stabL lt l).Perm l := by
  have hd := Nat.div_add_mod l.length 20
  have hlt := Nat.mod_lt l.length (show 20 > 0 by omega)
  obtain ⟨X, h1, h2, h3⟩ := blkL_ok O l (l.length / 20) (by omega)
  rw [stabL]
  generalize ht : l.length / 20 = t at *
  have hX : X.length = 20 * t := by have := h2.length_eq; simp at this; omega
  have eA : l.take (20 * t) ++ l.drop (20 * t) = l := List.take_append_drop _ _
  have key : ∃ C, insN lt (blkL lt l t) (20 * t) (l.length - 20 * t - 1) = X ++ C ∧ C.Perm (l.drop (20 * t)) ∧ Srt lt C := by
    rw [h1]
    by_cases hz : l.length - 20 * t = 0
    · have e : l.drop (20 * t) = [] := List.drop_eq_nil_of_le (by omega)
      rw [e, hz]
      exact ⟨[], by simp [insN], List.Perm.refl _, srt_nil⟩
    · obtain ⟨C, h4, h5, h6⟩ := insN_ok O (l.length - 20 * t - 1) X (l.drop (20 * t)) [] (by simp; omega)
      rw [hX] at h4
      exact ⟨C, by simpa using h4, h5, h6⟩
  obtain ⟨C, h4, h5, h6⟩ := key
  rw [h4]
  have hC := h5.length_eq
  simp at hC
  have hp : (X ++ C).Perm l := by have := h2.append h5; rwa [eA] at this
  have h7 := outL_ok O l.length l.length (X ++ C) 20 hp.length_eq (by omega) (by omega) (pcs_of 20 t X C hX (by omega) h3 h6)
  exact ⟨h7.1, h7.2.trans hp⟩
end Go.Sx

namespace Go.Rt
open Go Go.Sx

structure Dec where
  e : Ent
  husk : Bool
  nothing : Bool
  masked : Bool
  expired : Bool
  rank : Int
  deriving Inhabited
def decAV (d : Dec) : AV := .agg [entAV d.e, .bool d.husk, .bool d.nothing, .bool d.masked, .bool d.expired, .int .i64 d.rank]
attribute [go_sem] decAV

structure Wlk where
  s : List Fml
  clock : Int
  any : Bool
  last : Ent
  famMask : Int
  colMask : Int
  rank : Int
  opn : Bool
  ge : Ent
  lone : Bool
  deriving Inhabited

/-- who takes what the walk decides -/
structure Tk (P : Program) where
  σ : Type
  kw : Nat
  recv : AV
  g : FuncId
  o : FuncId
  m : FuncId
  fg : ∃ fn, P.funcs[g]? = some fn ∧ fn.body.isSome = true ∧ (fn.name == "runtime.NumGoroutine") = false
  fo : ∃ fn, P.funcs[o]? = some fn ∧ fn.body.isSome = true ∧ (fn.name == "runtime.NumGoroutine") = false
  fm : ∃ fn, P.funcs[m]? = some fn ∧ fn.body.isSome = true ∧ (fn.name == "runtime.NumGoroutine") = false
  keys : Nat → Prop
  kwn : ¬ keys kw
  holds : σ → Heap → Nat → Prop
  ext : ∀ st H H' n n', n ≤ n' → (∀ k, k < n → k ≠ kw → H' k = H k) → holds st H n → holds st H' n'
  grp : List Fml → σ → Dec → σ
  old : σ → σ
  mrk : σ → Ent → Bool → σ

def tkAV {P : Program} (T : Tk P) : AV := .agg [.fn (.func T.g) [T.recv] [], .fn (.func T.o) [T.recv] [], .fn (.func T.m) [T.recv] []]
def walkAV {P : Program} (T : Tk P) (w : Wlk) : AV := .agg [schAV w.s, .int .i64 w.clock, tkAV T, .bool w.any, entAV w.last, .int .i64 w.famMask, .int .i64 w.colMask, .int .i64 w.rank, .bool w.opn, .agg [entAV w.ge, .bool w.lone]]
attribute [go_sem] tkAV walkAV

/-- what a call leaves: the walk, the taker's state; all else of the caller's as it was -/
structure Left {P : Program} (T : Tk P) (H : Heap) (n : Nat) (w : Wlk) (st : T.σ) (H' : Heap) (n' : Nat) : Prop where
  le : n ≤ n'
  walk : H' T.kw = some (.arr 0 25 [walkAV T w])
  tk : T.holds st H' n'
  rest : ∀ k, k < n → k ≠ T.kw → ¬ T.keys k → H' k = H k

def LeftU {P : Program} (T : Tk P) (H : Heap) (n : Nat) (w : Wlk) (st : T.σ) (res : ARes) (H' : Heap) (n' : Nat) : Prop := res = .val (.tup []) ∧ Left T H n w st H' n'

/-- what stands ahead of a call -/
structure Ahead {P : Program} (T : Tk P) (H : Heap) (n : Nat) (w : Wlk) (st : T.σ) : Prop where
  kw : T.kw < n
  keys : ∀ k, T.keys k → k < n
  walk : H T.kw = some (.arr 0 25 [walkAV T w])
  tk : T.holds st H n

/-- the taker's functions do as told (ok: when) -/
structure TkOK {P : Program} (T : Tk P) (ok : T.σ → Prop) : Prop where
  cg : ∀ (w : Wlk) (st : T.σ) (d : Dec) (H : Heap) (n : Nat), Ahead T H n w st → ok st → 0 ≤ d.e.fam → d.e.fam < w.s.length → d.e.fits → ACalls P T.g [T.recv, decAV d] H n (LeftU T H n w (T.grp w.s st d))
  co : ∀ (w : Wlk) (st : T.σ) (H : Heap) (n : Nat), Ahead T H n w st → ok st → ACalls P T.o [T.recv] H n (LeftU T H n w (T.old st))
  cm : ∀ (w : Wlk) (st : T.σ) (e : Ent) (b : Bool) (H : Heap) (n : Nat), Ahead T H n w st → ok st → e.fits → ACalls P T.m [T.recv, entAV e, .bool b] H n (LeftU T H n w (T.mrk st e b))

theorem callK_useK {P : Program} {f : FuncId} {fn : Func} {first captured args args' : List AV} {H : Heap} {n : Nat} {k kp : AV → Heap → Nat → Prop} {K0 : ARes → Heap → Nat → Prop}
    (hf : P.funcs[f]? = some fn) (hb : fn.body.isSome = true) (hn : (fn.name == "runtime.NumGoroutine") = false) (ha : first ++ args ++ captured = args') (h : ACalls P f args' H n K0)
    (hk : ∀ r H' n', K0 (.val r) H' n' → k r H' n') (hp : ∀ p H' n', K0 (.pan p) H' n' → kp p H' n') : callK P (.fn (.func f) first captured) args H n k kp := by
  rw [callK_fn]
  exact .inl ⟨⟨fn, hf, hb, hn⟩, by rw [ha]; exact h.mono fun r H n hr => by cases r <;> first | exact hk _ _ _ hr | exact hp _ _ _ hr⟩

theorem Left.up {P : Program} {T : Tk P} {H H1 H' : Heap} {n n1 n' : Nat} {w : Wlk} {st : T.σ} (h : Left T H1 n1 w st H' n') (hn : n ≤ n1) (hr : ∀ k, k < n → k ≠ T.kw → ¬ T.keys k → H1 k = H k) : Left T H n w st H' n' :=
  ⟨Nat.le_trans hn h.le, h.walk, h.tk, fun k hk h1 h2 => (h.rest k (by omega) h1 h2).trans (hr k hk h1 h2)⟩

/-- a version comes -/
def verW (w : Wlk) (e : Ent) : Wlk := if w.opn = false then { w with opn := true, ge := e, lone := e.kind == 3 } else { w with lone := if e.kind ≠ 3 then false else w.lone }
def verT {P : Program} (T : Tk P) (w : Wlk) (st : T.σ) : T.σ := if w.opn = false then st else T.old st

def outD (d : Dec) : Bool := d.masked || d.expired
def famAt (s : List Fml) (i : Int) : Fml := s.getD i.toNat default
def dec0 (w : Wlk) : Dec := ⟨w.ge, bif w.ge.kind == 2 then true else bif w.ge.kind == 3 then !w.lone else false, w.lone, decide (w.ge.ts ≤ max w.famMask w.colMask), bif decide (0 < (famAt w.s w.ge.fam).ttl) then decide (w.ge.ts + (famAt w.s w.ge.fam).ttl ≤ w.clock) else false, 0⟩
def decOf (w : Wlk) : Dec := bif !outD (dec0 w) && !w.lone then { dec0 w with rank := w.rank + 1 } else dec0 w
def closeW (w : Wlk) : Wlk := if w.opn = false then w else { w with opn := false, rank := bif !outD (dec0 w) && !w.lone then w.rank + 1 else w.rank }
def closeT {P : Program} (T : Tk P) (w : Wlk) (st : T.σ) : T.σ := if w.opn = false then st else T.grp w.s st (decOf w)
end Go.Rt
namespace Go.Rt
open Go Go.Sx
/-- the walk's numbers are such that nothing overflows -/
structure WOK (w : Wlk) : Prop where
  fam : w.opn = true → 0 ≤ w.ge.fam ∧ w.ge.fam < w.s.length ∧ w.ge.fits ∧ 0 ≤ w.ge.ts ∧ w.ge.ts ≤ 1099511627776
  ttl : ∀ f ∈ w.s, 0 ≤ f.ttl ∧ f.ttl ≤ 1099511627776
  rank : 0 ≤ w.rank ∧ w.rank < 4611686018427387904
end Go.Rt
namespace Go.Rt
open Go Go.Sx
/-- does the group under way end ahead of e? -/
def endsE (w : Wlk) (e : Ent) : Bool := bif w.opn then (bif (bif !sameColE w.ge e then true else w.ge.ts != e.ts) then true else e.kind == 4) else false
def nx1 (w : Wlk) (e : Ent) : Wlk := bif endsE w e then closeW w else w
def nt1 {P : Program} (T : Tk P) (w : Wlk) (st : T.σ) (e : Ent) : T.σ := bif endsE w e then closeT T w st else st
def newFam (w : Wlk) (e : Ent) : Bool := bif !w.any then true else !sameFamE w.last e
def nx2 (w : Wlk) (e : Ent) : Wlk := bif newFam w e then { w with famMask := 0, colMask := 0, rank := 0 } else w
def newCol (w : Wlk) (e : Ent) : Bool := bif w.any then !sameColE w.last e else false
def nx3 (w : Wlk) (e : Ent) : Wlk := bif newCol w e then { w with colMask := 0, rank := 0 } else w
def nx4 (w : Wlk) (e : Ent) : Wlk := { w with any := true, last := e }
def nx5 (w : Wlk) (e : Ent) : Wlk :=
  if e.kind = 5 then { w with famMask := max w.famMask e.ts } else if e.kind = 4 then { w with colMask := max w.colMask e.ts } else verW w e
def nt5 {P : Program} (T : Tk P) (w : Wlk) (st : T.σ) (e : Ent) : T.σ :=
  if e.kind = 5 then T.mrk st e (w.famMask == 0) else if e.kind = 4 then T.mrk st e (bif w.colMask == 0 then decide (w.famMask < e.ts) else false) else verT T w st
def nextW (w : Wlk) (e : Ent) : Wlk := nx5 (nx4 (nx3 (nx2 (nx1 w e) e) e) e) e
def nextT {P : Program} (T : Tk P) (w : Wlk) (st : T.σ) (e : Ent) : T.σ := nt5 T (nx4 (nx3 (nx2 (nx1 w e) e) e) e) (nt1 T w st e) e

/-- amid a call: the entry lies at n -/
structure Amid {P : Program} (T : Tk P) (H : Heap) (n : Nat) (e : Ent) (w : Wlk) (st : T.σ) (T' : Nat → AV) (H' : Heap) (n' : Nat) : Prop where
  t0 : T' 0 = .loc T.kw 0 0 0 []
  t3 : T' 3 = .loc n 0 0 0 []
  en : H' n = some (.arr 0 7 [entAV e])
  le : n + 1 ≤ n'
  walk : H' T.kw = some (.arr 0 25 [walkAV T w])
  tk : T.holds st H' n'
  rest : ∀ k, k < n → k ≠ T.kw → ¬ T.keys k → H' k = H k
end Go.Rt
namespace Go.Rt
open Go Go.Sx
section
variable {P : Program} {T : Tk P} {H H1 : Heap} {n n1 : Nat} {e : Ent} {w' : Wlk} {st : T.σ}
theorem put_kw (o : Option AObj) {k : Nat} (h : k ≠ T.kw) : (H1.put T.kw o) k = H1 k := Heap.put_ne _ _ h
theorem amid_put (hkw : T.kw < n) (he : H1 n = some (.arr 0 7 [entAV e])) (hn : n + 1 ≤ n1) (htk : T.holds st H1 n1) (hrest : ∀ k, k < n → k ≠ T.kw → ¬ T.keys k → H1 k = H k) (w' : Wlk) {T' : Nat → AV}
    (h0 : T' 0 = .loc T.kw 0 0 0 []) (h3 : T' 3 = .loc n 0 0 0 []) : Amid T H n e w' st T' (H1.put T.kw (some (.arr 0 25 [walkAV T w']))) n1 where
  t0 := h0
  t3 := h3
  en := by rw [put_kw _ (by omega)]; exact he
  le := hn
  walk := by simp [Heap.put]
  tk := T.ext st H1 _ n1 n1 (Nat.le_refl _) (fun k _ hk => put_kw _ hk) htk
  rest := fun k hk h1 h2 => by rw [put_kw _ h1]; exact hrest k hk h1 h2
theorem ahead_put (hkw : T.kw < n) (hkeys : ∀ k, T.keys k → k < n) (hn : n + 1 ≤ n1) (htk : T.holds st H1 n1) (w' : Wlk) : Ahead T (H1.put T.kw (some (.arr 0 25 [walkAV T w']))) n1 w' st where
  kw := by omega
  keys := fun k hk => by have := hkeys k hk; omega
  walk := by simp [Heap.put]
  tk := T.ext st H1 _ n1 n1 (Nat.le_refl _) (fun k _ hk => put_kw _ hk) htk
theorem left_put (hn : n ≤ n1) (htk : T.holds st H1 n1) (hrest : ∀ k, k < n → k ≠ T.kw → ¬ T.keys k → H1 k = H k) (w' : Wlk) : Left T H n w' st (H1.put T.kw (some (.arr 0 25 [walkAV T w']))) n1 where
  le := hn
  walk := by simp [Heap.put]
  tk := T.ext st H1 _ n1 n1 (Nat.le_refl _) (fun k _ hk => put_kw _ hk) htk
  rest := fun k hk h1 h2 => by rw [put_kw _ h1]; exact hrest k hk h1 h2
end
end Go.Rt
namespace Go.Rt
open Go Go.Sx
def goodE (s : List Fml) (e : Ent) : Prop := 0 ≤ e.fam ∧ e.fam < s.length ∧ e.fits ∧ 0 ≤ e.ts ∧ e.ts ≤ 1099511627776

/-- sound, of that schema, with a rank up to r -/
structure WRk (s : List Fml) (r : Int) (w : Wlk) : Prop where
  sch : w.s = s
  fam : w.opn = true → goodE s w.ge
  lo : 0 ≤ w.rank
  hi : w.rank ≤ r

theorem WRk.wok {s : List Fml} {r : Int} {w : Wlk} (h : WRk s r w) (hr : r < 4611686018427387904) (ht : ∀ f ∈ s, 0 ≤ f.ttl ∧ f.ttl ≤ 1099511627776) : WOK w :=
  ⟨fun ho => by have := h.fam ho; rw [h.sch]; exact this, by rw [h.sch]; exact ht, h.lo, by have := h.hi; omega⟩
theorem WRk.close {s : List Fml} {r : Int} {w : Wlk} (h : WRk s r w) : WRk s (r + 1) (closeW w) := by
  have h1 := h.lo; have h2 := h.hi
  unfold closeW
  split
  · exact ⟨h.sch, h.fam, h.lo, by omega⟩
  · refine ⟨h.sch, fun ho => by simp at ho, ?_, ?_⟩ <;> (cases (!outD (dec0 w) && !w.lone) <;> simp <;> omega)
theorem WRk.mono {s : List Fml} {r r' : Int} {w : Wlk} (h : WRk s r w) (hr : r ≤ r') : WRk s r' w := ⟨h.sch, h.fam, h.lo, by have := h.hi; omega⟩
theorem WRk.next {s : List Fml} {r : Int} {w : Wlk} {e : Ent} (h : WRk s r w) (he : goodE s e) (hr : 0 ≤ r) : WRk s (r + 1) (nextW w e) := by
  have h1 : WRk s (r + 1) (nx1 w e) := by
    unfold nx1; cases endsE w e
    · exact h.mono (by omega)
    · exact h.close
  have h2 : WRk s (r + 1) (nx2 (nx1 w e) e) := by
    unfold nx2; cases newFam (nx1 w e) e
    · exact h1
    · exact ⟨h1.sch, h1.fam, Int.le_refl _, by simp; omega⟩
  have h3 : WRk s (r + 1) (nx3 (nx2 (nx1 w e) e) e) := by
    unfold nx3; cases newCol (nx2 (nx1 w e) e) e
    · exact h2
    · exact ⟨h2.sch, h2.fam, Int.le_refl _, by simp; omega⟩
  have h4 : WRk s (r + 1) (nx4 (nx3 (nx2 (nx1 w e) e) e) e) := ⟨h3.sch, h3.fam, h3.lo, h3.hi⟩
  unfold nextW nx5
  split
  · exact ⟨h4.sch, h4.fam, h4.lo, h4.hi⟩
  · split
    · exact ⟨h4.sch, h4.fam, h4.lo, h4.hi⟩
    · unfold verW
      split
      · exact ⟨h4.sch, fun _ => he, h4.lo, h4.hi⟩
      · exact ⟨h4.sch, h4.fam, h4.lo, h4.hi⟩

/-- how far a taker's state has come -/
structure TkInv {P : Program} (T : Tk P) (ok : T.σ → Prop) (M : Nat) (inv : Nat → T.σ → Prop) : Prop where
  ok : ∀ i st, i ≤ M → inv i st → ok st
  up : ∀ i st, inv i st → inv (i + 1) st
  g : ∀ i s st d, inv i st → inv (i + 1) (T.grp s st d)
  o : ∀ i st, inv i st → inv (i + 1) (T.old st)
  m : ∀ i st e b, inv i st → inv (i + 1) (T.mrk st e b)

theorem TkInv.close {P : Program} {T : Tk P} {ok : T.σ → Prop} {M : Nat} {inv : Nat → T.σ → Prop} (h : TkInv T ok M inv) {i : Nat} {w : Wlk} {st : T.σ} (hi : inv i st) : inv (i + 1) (closeT T w st) := by
  unfold closeT; split
  · exact h.up _ _ hi
  · exact h.g _ _ _ _ hi
theorem TkInv.nt1 {P : Program} {T : Tk P} {ok : T.σ → Prop} {M : Nat} {inv : Nat → T.σ → Prop} (h : TkInv T ok M inv) {i : Nat} {w : Wlk} {e : Ent} {st : T.σ} (hi : inv i st) : inv (i + 1) (nt1 T w st e) := by
  unfold Rt.nt1; cases endsE w e
  · exact h.up _ _ hi
  · exact h.close hi
theorem TkInv.next {P : Program} {T : Tk P} {ok : T.σ → Prop} {M : Nat} {inv : Nat → T.σ → Prop} (h : TkInv T ok M inv) {i : Nat} {w : Wlk} {e : Ent} {st : T.σ} (hi : inv i st) : inv (i + 2) (nextT T w st e) := by
  have h1 := h.nt1 (w := w) (e := e) hi
  unfold nextT nt5
  split
  · exact h.m _ _ _ _ h1
  · split
    · exact h.m _ _ _ _ h1
    · unfold verT; split
      · exact h.up _ _ h1
      · exact h.o _ _ h1

def runP {P : Program} (T : Tk P) : List Ent → Wlk × T.σ → Wlk × T.σ
  | [], p => p
  | e :: l, p => runP T l (nextW p.1 e, nextT T p.1 p.2 e)
def runW {P : Program} (T : Tk P) (l : List Ent) (w : Wlk) (st : T.σ) : Wlk × T.σ :=
  let p := runP T l (w, st)
  (closeW p.1, closeT T p.1 p.2)
end Go.Rt
namespace Go.Rt
open Go Go.Sx
structure KSt where
  major : Bool
  low : Int
  out : List Ent
  older : Int
  masked : Int
  expired : Int
  above : Int
  marks : Int

def KSt.ok (s : KSt) : Prop := 0 ≤ s.older ∧ 0 ≤ s.masked ∧ 0 ≤ s.expired ∧ 0 ≤ s.above ∧ 0 ≤ s.marks ∧ s.older + s.masked + s.expired + s.above + s.marks + s.out.length ≤ 1000000000000

def keptG (f : List Fml) (s : KSt) (d : Dec) : KSt :=
  if d.masked = true then { s with masked := s.masked + 1 }
  else if d.expired = true then { s with expired := s.expired + 1 }
  else if d.nothing = true ∧ s.major = true then { s with marks := s.marks + 1 }
  else if d.nothing = true then { s with out := s.out ++ [d.e] }
  else if (famAt f d.e.fam).max < d.rank then { s with above := s.above + 1 }
  else if d.husk = true then { s with out := s.out ++ [{ d.e with kind := 2, value := [] }] }
  else { s with out := s.out ++ [d.e] }
def keptO (s : KSt) : KSt := { s with older := s.older + 1 }
def keptM (s : KSt) (e : Ent) (b : Bool) : KSt :=
  if b = false ∨ s.major = true ∧ e.ts ≤ s.low then { s with marks := s.marks + 1 } else { s with out := s.out ++ [e] }

def wlk0 (s : List Fml) (clock : Int) : Wlk := ⟨s, clock, false, ⟨[], 0, [], 0, 0, 0, []⟩, 0, 0, 0, false, ⟨[], 0, [], 0, 0, 0, []⟩, false⟩
def kst0 (major : Bool) (low : Int) : KSt := ⟨major, low, [], 0, 0, 0, 0, 0⟩


/-- what the walk tells -/
inductive Ev where
  | g (d : Dec)
  | o
  | m (e : Ent) (b : Bool)
def evT {σ : Type} (grp : σ → Dec → σ) (old : σ → σ) (mrk : σ → Ent → Bool → σ) (st : σ) : Ev → σ
  | .g d => grp st d
  | .o => old st
  | .m e b => mrk st e b
def closeV (w : Wlk) : List Ev := if w.opn = false then [] else [.g (decOf w)]
def ev1 (w : Wlk) (e : Ent) : List Ev := bif endsE w e then closeV w else []
def ev5 (w : Wlk) (e : Ent) : List Ev :=
  if e.kind = 5 then [.m e (w.famMask == 0)] else if e.kind = 4 then [.m e (bif w.colMask == 0 then decide (w.famMask < e.ts) else false)] else if w.opn = false then [] else [.o]
def evN (w : Wlk) (e : Ent) : List Ev := ev1 w e ++ ev5 (nx4 (nx3 (nx2 (nx1 w e) e) e) e) e
def evP : List Ent → Wlk → List Ev
  | [], w => closeV w
  | e :: l, w => evN w e ++ evP l (nextW w e)

section
variable {P : Program} (T : Tk P)
theorem closeT_ev (w : Wlk) (st : T.σ) : closeT T w st = (closeV w).foldl (evT (T.grp w.s) T.old T.mrk) st := by
  unfold closeT closeV; split <;> rfl
theorem closeW_s (w : Wlk) : (closeW w).s = w.s := by unfold closeW; split <;> rfl
theorem nx1_s (w : Wlk) (e : Ent) : (nx1 w e).s = w.s := by unfold nx1; cases endsE w e; rfl; exact closeW_s w
theorem nx4_s (w : Wlk) (e : Ent) : (nx4 (nx3 (nx2 (nx1 w e) e) e) e).s = w.s := by
  rw [← nx1_s w e]
  have h2 : ∀ w : Wlk, (nx2 w e).s = w.s := fun w => by unfold nx2; cases newFam w e <;> rfl
  have h3 : ∀ w : Wlk, (nx3 w e).s = w.s := fun w => by unfold nx3; cases newCol w e <;> rfl
  exact (h3 _).trans (h2 _)
theorem nextW_s (w : Wlk) (e : Ent) : (nextW w e).s = w.s := by
  rw [← nx4_s w e]
  unfold nextW nx5
  split
  · rfl
  · split
    · rfl
    · unfold verW; split <;> rfl
theorem nextT_ev (w : Wlk) (st : T.σ) (e : Ent) : nextT T w st e = (evN w e).foldl (evT (T.grp w.s) T.old T.mrk) st := by
  unfold nextT evN
  rw [List.foldl_append]
  have h1 : nt1 T w st e = (ev1 w e).foldl (evT (T.grp w.s) T.old T.mrk) st := by
    unfold nt1 ev1; cases endsE w e
    · rfl
    · exact closeT_ev T w st
  rw [h1]
  unfold nt5 ev5
  split
  · rfl
  · split
    · rfl
    · unfold verT; split <;> rfl
theorem runW_ev : ∀ (l : List Ent) (w : Wlk) (st : T.σ), (runW T l w st).2 = (evP l w).foldl (evT (T.grp w.s) T.old T.mrk) st := by
  intro l
  induction l with
  | nil => intro w st; exact closeT_ev T w st
  | cons e l ih =>
    intro w st
    have h : (runW T (e :: l) w st) = runW T l (nextW w e) (nextT T w st e) := rfl
    rw [h, ih, evP, List.foldl_append, nextT_ev, nextW_s]
end

def keptOf (s : List Fml) (clock : Int) (major : Bool) (low : Int) (m : List Ent) : KSt :=
  (evP m (wlk0 s clock)).foldl (evT (keptG s) keptO keptM) (kst0 major low)
end Go.Rt
namespace Go.Rt
open Go Go.Sx
/-- who reads -/
structure SSt where
  t : Int
  n : Int
  out : List Ent
  count : Int
  last : Ent
def sst0 (t n : Int) : SSt := ⟨t, n, [], 0, ⟨[], 0, [], 0, 0, 0, []⟩⟩
def unseen (f : List Fml) (s : SSt) (d : Dec) : Bool :=
  bif (bif (bif d.rank == 0 then true else decide ((famAt f d.e.fam).max < d.rank)) then true else d.husk) then true else decide (s.t < d.e.ts)
def cnt1 (s : SSt) (d : Dec) : Int := if (bif decide (0 < s.count) then !sameColE s.last d.e else false) = true then 0 else s.count
def shownG (f : List Fml) (s : SSt) (d : Dec) : SSt :=
  if unseen f s d = true then s
  else if cnt1 s d < s.n then { s with count := cnt1 s d + 1, last := d.e, out := s.out ++ [d.e] } else { s with count := cnt1 s d }
def shownOf (s : List Fml) (clock t n : Int) (m : List Ent) : SSt := (evP m (wlk0 s clock)).foldl (evT (shownG s) id fun st _ _ => st) (sst0 t n)
/-- who looks for the greatest time -/
def topG (t : Int) (d : Dec) : Int := if 0 < d.rank then max t d.e.ts else t
def topOf (s : List Fml) (clock : Int) (m : List Ent) : Int := (evP m (wlk0 s clock)).foldl (evT topG id fun st _ _ => st) 0
end Go.Rt

namespace Go.Rt
open Go Go.Sx

attribute [go_sem] List.getD_cons_zero List.getD_cons_succ

def ltE (x y : Ent) : Bool := decide (compE x y < 0)
def seqOf (acc : List Ent) (s : Int) : Option Ent := acc.find? fun x => x.seq == s
/-- the same one twice is told once; none: two unlike ones of one Seq -/
def ddE : List Ent → List Ent → Option (List Ent)
  | acc, [] => some acc
  | acc, e :: l => match seqOf acc e.seq with
    | some x => if x = e then ddE acc l else none
    | none => ddE (acc ++ [e]) l
def sortedE (l : List Ent) : List Ent × Int :=
  match ddE [] l with
  | some m => (stabL ltE m, 0)
  | none => ([], 31)
def badsE (s : List Fml) : List Ent → Int
  | [] => 0
  | e :: l => if checkedE s e ≠ 0 then checkedE s e else badsE s l
def prepE (s : List Fml) (clock : Int) (times : List Int) (k : Int) (l : List Ent) : List Ent × Int :=
  if boundsE s clock times k ≠ 0 then ([], boundsE s clock times k) else if badsE s l ≠ 0 then ([], badsE s l) else sortedE l

def squashE (s : List Fml) (clock : Int) (major : Bool) (low : Int) (l : List Ent) : List Ent × Int :=
  if (prepE s clock [low] 1 l).2 ≠ 0 then ([], (prepE s clock [low] 1 l).2) else ((keptOf s clock major low (prepE s clock [low] 1 l).1).out, 0)

def readE (s : List Fml) (clock t n : Int) (l : List Ent) : List Ent × Int :=
  if (prepE s clock [t] n l).2 ≠ 0 then ([], (prepE s clock [t] n l).2) else ((shownOf s clock t n (prepE s clock [t] n l).1).out, 0)
def visE (s : List Fml) (clock : Int) (l : List Ent) : List Ent × Int := readE s clock 1099511627776 16 l
def topE (s : List Fml) (clock : Int) (l : List Ent) : Int × Int :=
  if (prepE s clock [] 1 l).2 ≠ 0 then (0, (prepE s clock [] 1 l).2) else (topOf s clock (prepE s clock [] 1 l).1, 0)

def seqPair (e : Ent) : AV × AV := (.int .i64 e.seq, entAV e)
theorem findK_seq (acc : List Ent) (s : Int) : findK (acc.map seqPair) (.int .i64 s) = (seqOf acc s).map entAV := by
  induction acc with
  | nil => rfl
  | cons a acc ih =>
    simp only [List.map_cons, seqPair, findK, keySame, seqOf, List.find?_cons]
    by_cases h : a.seq = s
    · subst h; simp
    · have h1 : (s == a.seq) = false := by simpa using Ne.symm h
      have h2 : (a.seq == s) = false := by simpa using h
      rw [h1, h2]
      exact ih
theorem setK_seq (acc : List Ent) (e : Ent) (h : seqOf acc e.seq = none) : setK (acc.map seqPair) (.int .i64 e.seq) (entAV e) = (acc ++ [e]).map seqPair := by
  induction acc with
  | nil => rfl
  | cons a acc ih =>
    simp only [seqOf, List.find?_cons] at h
    cases h2 : (a.seq == e.seq) with
    | true => rw [h2] at h; simp at h
    | false =>
      rw [h2] at h
      have h1 : (e.seq == a.seq) = false := by rw [← h2]; exact Bool.beq_comm
      simp only [List.map_cons, seqPair, setK, keySame, h1, cond_false, List.cons_append]
      congr 1
      exact ih h
theorem ddE_length : ∀ (l acc m : List Ent), ddE acc l = some m → m.length ≤ acc.length + l.length := by
  intro l
  induction l with
  | nil => intro acc m h; simp only [ddE, Option.some.injEq] at h; subst h; simp
  | cons e l ih =>
    intro acc m h
    rw [ddE] at h
    split at h
    · split at h
      · have := ih _ _ h; simp; omega
      · simp at h
    · have := ih _ _ h; simp at this ⊢; omega
theorem ddE_sub : ∀ (l acc m : List Ent), ddE acc l = some m → ∀ x ∈ m, x ∈ acc ∨ x ∈ l := by
  intro l
  induction l with
  | nil => intro acc m h x hx; simp only [ddE, Option.some.injEq] at h; subst h; exact .inl hx
  | cons e l ih =>
    intro acc m h x hx
    rw [ddE] at h
    split at h
    · split at h
      · rcases ih _ _ h x hx with h | h
        · exact .inl h
        · exact .inr (List.mem_cons_of_mem _ h)
      · simp at h
    · rcases ih _ _ h x hx with h | h
      · rcases List.mem_append.1 h with h | h
        · exact .inl h
        · right; simp at h; simp [h]
      · exact .inr (List.mem_cons_of_mem _ h)
theorem stabL_length (l : List Ent) : (stabL ltE l).length = l.length := by
  have h1 : ∀ t, (blkL ltE l t).length = l.length := fun t => by
    induction t with
    | zero => rfl
    | succ t ih => rw [blkL, insN_length, ih]
  have h2 : ∀ (l : List Ent) bs t, (mrgL ltE l bs t).length = l.length := fun l bs t => by
    induction t with
    | zero => rfl
    | succ t ih => rw [mrgL, symL_length, ih]
  have h3 : ∀ (n c : Nat) (l : List Ent) (bs : Nat), (outL ltE n c l bs).length = l.length := fun n c => by
    induction c with
    | zero => intros; rfl
    | succ c ih =>
      intro l bs; rw [outL]; split
      · rw [ih, passL]; split <;> simp [symL_length, h2]
      · rfl
  rw [stabL, h3, insN_length, h1]
end Go.Rt

namespace Go.Rt
open Go Go.Sx

structure COK {α : Type} (c : α → α → Int) : Prop where
  anti : ∀ a b, c a b < 0 ↔ 0 < c b a
  tr : ∀ a b d, c a b ≤ 0 → c b d ≤ 0 → c a d ≤ 0

section
variable {α : Type} {c d : α → α → Int}
theorem COK.zs (h : COK c) {a b : α} (h0 : c a b = 0) : c b a = 0 := by
  have h1 := h.anti a b; have h2 := h.anti b a; omega
theorem COK.refl (h : COK c) (a : α) : c a a = 0 := by
  have h1 := h.anti a a; omega
theorem COK.neg (h : COK c) {a b : α} (h0 : c a b ≤ 0) : 0 ≤ c b a := by
  have h1 := h.anti a b; have h2 := h.anti b a; omega
theorem COK.pos (h : COK c) {a b : α} (h0 : 0 ≤ c a b) : c b a ≤ 0 := by
  have h1 := h.anti a b; have h2 := h.anti b a; omega
theorem COK.lt_le (h : COK c) {a b e : α} (h1 : c a b < 0) (h2 : c b e ≤ 0) : c a e < 0 := by
  have h3 := h.tr a b e (by omega) h2
  rcases Int.lt_or_eq_of_le h3 with h4 | h4
  · exact h4
  · have h5 := h.zs h4
    have h6 := h.tr b e a h2 (by omega)
    have := (h.anti a b).1 h1; omega
theorem COK.le_lt (h : COK c) {a b e : α} (h1 : c a b ≤ 0) (h2 : c b e < 0) : c a e < 0 := by
  have h3 := h.tr a b e h1 (by omega)
  rcases Int.lt_or_eq_of_le h3 with h4 | h4
  · exact h4
  · have h5 := h.zs h4
    have h6 := h.tr e a b (by omega) h1
    have := (h.anti b e).1 h2; omega
theorem COK.zz (h : COK c) {a b e : α} (h1 : c a b = 0) (h2 : c b e = 0) : c a e = 0 := by
  have h3 := h.tr a b e (by omega) (by omega)
  have h4 := h.tr e b a (by have := h.zs h2; omega) (by have := h.zs h1; omega)
  have := h.neg h4; omega
/-- one behind the other -/
def thenC (c d : α → α → Int) (a b : α) : Int := if c a b ≠ 0 then c a b else d a b
theorem COK.then (hc : COK c) (hd : COK d) : COK (thenC c d) where
  anti := fun a b => by
    unfold thenC
    have h1 := hc.anti a b; have h2 := hc.anti b a; have h3 := hd.anti a b
    by_cases h : c a b = 0
    · have h' := hc.zs h
      simp [h, h', h3]
    · have h' : c b a ≠ 0 := fun e => h (hc.zs e)
      simp [h, h', h1]
  tr := fun a b e h1 h2 => by
    unfold thenC at *
    by_cases ha : c a b = 0
    · rw [if_neg (by simp [ha])] at h1
      by_cases hb : c b e = 0
      · rw [if_neg (by simp [hb])] at h2
        rw [if_neg (by simp [hc.zz ha hb])]
        exact hd.tr _ _ _ h1 h2
      · rw [if_pos hb] at h2
        have := hc.le_lt (a := a) (b := b) (e := e) (by omega) (by omega)
        rw [if_pos (by omega)]; omega
    · rw [if_pos ha] at h1
      have h2' : c b e ≤ 0 := by
        by_cases hb : c b e = 0
        · omega
        · rw [if_pos hb] at h2; exact h2
      have := hc.lt_le (a := a) (b := b) (e := e) (by omega) h2'
      rw [if_pos (by omega)]; omega
theorem COK.on {β : Type} {f : β → α} (h : COK c) : COK fun a b => c (f a) (f b) := ⟨fun a b => h.anti _ _, fun a b e => h.tr _ _ _⟩
theorem COK.flip (h : COK c) : COK fun a b => c b a := ⟨fun a b => by have h1 := h.anti b a; have h2 := h.anti a b; omega, fun a b e h1 h2 => h.tr _ _ _ h2 h1⟩
end

theorem cok_cmpI : COK cmpI where
  anti := fun a b => by unfold cmpI; repeat' split
                        all_goals omega
  tr := fun a b e => by unfold cmpI; repeat' split
                        all_goals omega
theorem cok_first (k : Int) : COK (firstI k) where
  anti := fun a b => by unfold firstI; repeat' split
                        all_goals omega
  tr := fun a b e => by unfold firstI; repeat' split
                        all_goals omega
theorem cb_cons (a b : UInt8) (as bs : List UInt8) : Lib.compareBytes (a :: as) (b :: bs) = if a < b then -1 else if b < a then 1 else Lib.compareBytes as bs := rfl
theorem cb_anti : ∀ (a b : List UInt8), Lib.compareBytes a b < 0 ↔ 0 < Lib.compareBytes b a
  | [], [] => by decide
  | [], _ :: _ => by simp [Lib.compareBytes]
  | _ :: _, [] => by simp [Lib.compareBytes]
  | a :: as, b :: bs => by
    rw [cb_cons, cb_cons]
    have := cb_anti as bs
    by_cases h1 : a < b
    · have h2 : ¬ b < a := by simp only [UInt8.lt_iff_toNat_lt] at *; omega
      simp [h1, h2]
    · by_cases h2 : b < a
      · simp [h1, h2]
      · simp [h1, h2, this]
theorem cb_tr : ∀ (a b c : List UInt8), Lib.compareBytes a b ≤ 0 → Lib.compareBytes b c ≤ 0 → Lib.compareBytes a c ≤ 0
  | [], _, [] => fun _ _ => by decide
  | [], _, _ :: _ => fun _ _ => by simp [Lib.compareBytes]
  | _ :: _, [], _ => fun h => by simp [Lib.compareBytes] at h
  | _ :: _, _ :: _, [] => fun _ h => by simp [Lib.compareBytes] at h
  | a :: as, b :: bs, c :: cs => fun h1 h2 => by
    rw [cb_cons] at *
    have ih := cb_tr as bs cs
    simp only [UInt8.lt_iff_toNat_lt] at *
    repeat' split at h1
    all_goals repeat' split at h2
    all_goals repeat' split
    all_goals first | omega | exact ih h1 h2 | skip
theorem cok_bytes : COK Lib.compareBytes := ⟨cb_anti, cb_tr⟩
theorem cmpI_zero (x y : Int) : cmpI x y = 0 ↔ x = y := by unfold cmpI; repeat' split
                                                           all_goals omega

theorem cok_step (i : Nat) : COK (stepE i) := by
  match i with
  | 0 => exact cok_bytes.on (f := Ent.row)
  | 1 => exact cok_cmpI.on (f := Ent.fam)
  | 2 => exact cok_first 5
  | 3 => exact cok_bytes.on (f := Ent.qual)
  | 4 => exact cok_first 4
  | 5 => exact (cok_cmpI.on (f := Ent.ts)).flip
  | 6 => exact (cok_cmpI.on (f := Ent.seq)).flip
  | 7 => exact cok_cmpI.on (f := Ent.kind)
  | _ + 8 => exact ⟨fun a b => by show (0 : Int) < 0 ↔ (0 : Int) < 0; omega, fun a b e _ _ => Int.le_refl _⟩
theorem cok_from : ∀ k, COK fun a b => compFrom a b k
  | 0 => ⟨fun a b => by show (0 : Int) < 0 ↔ (0 : Int) < 0; omega, fun a b e _ _ => Int.le_refl _⟩
  | k + 1 => (cok_step (7 - k)).then (cok_from k)
theorem cok_comp : COK compE := cok_from 8

theorem ord_ltE : Ord ltE where
  tr := fun x y z h1 h2 => by
    simp only [ltE, decide_eq_false_iff_not, Int.not_lt] at *
    exact cok_comp.neg (cok_comp.tr _ _ _ (cok_comp.pos h1) (cok_comp.pos h2))
  asym := fun x y h => by
    simp only [ltE, decide_eq_false_iff_not, decide_eq_true_eq, Int.not_lt] at *
    exact cok_comp.neg (by omega)
theorem stabL_perm (l : List Ent) : (stabL ltE l).Perm l := (stabL_ok ord_ltE l).2
theorem stabL_srt (l : List Ent) : Srt ltE (stabL ltE l) := (stabL_ok ord_ltE l).1
theorem stabL_mem (l : List Ent) (e : Ent) : e ∈ stabL ltE l ↔ e ∈ l := (stabL_perm l).mem_iff
theorem comp_zero_seq {a b : Ent} (h : compE a b = 0) : a.seq = b.seq := by
  rw [show compE a b = thenC (stepE 0) (thenC (stepE 1) (thenC (stepE 2) (thenC (stepE 3) (thenC (stepE 4) (thenC (stepE 5) (thenC (stepE 6) (thenC (stepE 7) fun _ _ => 0))))))) a b from rfl] at h
  simp only [thenC] at h
  by_cases h0 : stepE 0 a b = 0
  · by_cases h1 : stepE 1 a b = 0
    · by_cases h2 : stepE 2 a b = 0
      · by_cases h3 : stepE 3 a b = 0
        · by_cases h4 : stepE 4 a b = 0
          · by_cases h5 : stepE 5 a b = 0
            · by_cases h6 : stepE 6 a b = 0
              · exact ((cmpI_zero _ _).1 h6).symm
              · simp [h0, h1, h2, h3, h4, h5, h6] at h
            · simp [h0, h1, h2, h3, h4, h5] at h
          · simp [h0, h1, h2, h3, h4] at h
        · simp [h0, h1, h2, h3] at h
      · simp [h0, h1, h2] at h
    · simp [h0, h1] at h
  · simp [h0] at h

theorem seqOf_none {acc : List Ent} {k : Int} (h : seqOf acc k = none) : ∀ x ∈ acc, x.seq ≠ k := by
  unfold seqOf at h
  intro x hx
  have := List.find?_eq_none.1 h x hx
  simpa using this
/-- what is in order is told by what it holds -/
theorem srt_unique {l m : List Ent} (hl : Srt ltE l) (hm : Srt ltE m) (hp : l.Perm m) (hs : (l.map (·.seq)).Nodup) : l = m := by
  refine List.Perm.eq_of_pairwise (le := fun x y => ltE y x = false) (fun a b ha hb h1 h2 => ?_) hl hm hp
  have hb : b ∈ l := hp.mem_iff.2 hb
  have hz : compE a b = 0 := by
    simp only [ltE, decide_eq_false_iff_not, Int.not_lt] at h1 h2
    have := cok_comp.pos h1
    omega
  have hseq := comp_zero_seq hz
  clear h1 h2 hz hl hm hp
  induction l with
  | nil => cases ha
  | cons x l ih =>
    simp only [List.map_cons, List.nodup_cons, List.mem_map] at hs
    rcases List.mem_cons.1 ha with e1 | ha'
    · rcases List.mem_cons.1 hb with e2 | hb'
      · rw [e1, e2]
      · exact absurd ⟨b, hb', by rw [← e1]; exact hseq.symm⟩ hs.1
    · rcases List.mem_cons.1 hb with e2 | hb'
      · exact absurd ⟨a, ha', by rw [← e2]; exact hseq⟩ hs.1
      · exact ih hs.2 ha' hb'
end Go.Rt

namespace Go.Rt
open Go Go.Sx

theorem kls0_bytes : ∀ (b : List UInt8) (n : Nat), AV.kls n (b.map byteAV)
  | [], _ => trivial
  | _ :: b, n => ⟨trivial, kls0_bytes b n⟩
theorem frzL_kl {H : Heap} {n : Nat} : ∀ (l : List AV), AV.kls n l → FrzL H n l l
  | [], _ => .nil
  | _ :: l, h => .cons (.kl h.1) (frzL_kl l h.2)

/-- a piece of memory that bytes are lent out of -/
structure Lp where
  k : Nat
  ver : Nat
  els : List AV
instance : Inhabited Lp := ⟨⟨0, 0, []⟩⟩
structure Lp.here (H : Heap) (p : Lp) (b : List UInt8) : Prop where
  at' : H p.k = some (.arr p.ver 1 p.els)
  len : b.length ≤ p.els.length
  tk : p.els.take b.length = b.map byteAV
structure Lp.ok (H : Heap) (n : Nat) (p : Lp) (b : List UInt8) : Prop extends Lp.here H p b where
  lt : p.k < n
theorem Lp.here.mono {H H' : Heap} {p : Lp} {b : List UInt8} (h : p.here H b) (hH : H' p.k = H p.k) : p.here H' b := ⟨hH.trans h.at', h.len, h.tk⟩
def Lp.av (p : Lp) (len : Nat) : AV := .osl p.k p.ver 0 len
attribute [go_sem] Lp.av
theorem Lp.ok.mono {H H' : Heap} {n n' : Nat} {p : Lp} {b : List UInt8} (h : p.ok H n b) (hH : ∀ k, k < n → H' k = H k) (hn : n ≤ n') : p.ok H' n' b :=
  ⟨h.tohere.mono (hH _ h.lt), Nat.lt_of_lt_of_le h.lt hn⟩
theorem Lp.ok.frz {H : Heap} {n : Nat} {p : Lp} {b : List UInt8} (h : p.ok H n b) : Frz H 0 (p.av b.length) (bys b) :=
  .osl h.at' (Nat.zero_le _) (by have := h.len; omega) (by rw [List.drop_zero, h.tk]; exact frzL_kl _ (kls0_bytes b 0))

/-- an entry that is lent -/
structure LEnt where
  e : Ent
  r : Lp
  q : Lp
  v : Lp
instance : Inhabited LEnt := ⟨⟨default, default, default, default⟩⟩
def lentAV (x : LEnt) : AV := .agg [x.r.av x.e.row.length, .int .i64 x.e.fam, x.q.av x.e.qual.length, .int .i64 x.e.ts, .int .i64 x.e.seq, .int .i64 x.e.kind, x.v.av x.e.value.length]
attribute [go_sem] lentAV
structure LEnt.ok (H : Heap) (n : Nat) (x : LEnt) : Prop where
  r : x.r.ok H n x.e.row
  q : x.q.ok H n x.e.qual
  v : x.v.ok H n x.e.value
theorem LEnt.ok.mono {H H' : Heap} {n n' : Nat} {x : LEnt} (h : x.ok H n) (hH : ∀ k, k < n → H' k = H k) (hn : n ≤ n') : x.ok H' n' := ⟨h.r.mono hH hn, h.q.mono hH hn, h.v.mono hH hn⟩
theorem LEnt.ok.frz {H : Heap} {n : Nat} {x : LEnt} (h : x.ok H n) : Frz H 0 (lentAV x) (entAV x.e) :=
  .agg (.cons h.r.frz (.cons (.kl trivial) (.cons h.q.frz (.cons (.kl trivial) (.cons (.kl trivial) (.cons (.kl trivial) (.cons h.v.frz .nil)))))))
theorem lentAV_sz (x : LEnt) : (lentAV x).sz = 7 := by simp [lentAV, AV.sz, AV.szs, Lp.av]
theorem lents_frz {H : Heap} {n : Nat} : ∀ (l : List LEnt), (∀ x ∈ l, x.ok H n) → FrzL H 0 (l.map lentAV) ((l.map (·.e)).map entAV)
  | [], _ => .nil
  | x :: l, h => .cons (h x (by simp)).frz (lents_frz l fun y hy => h y (by simp [hy]))

/-! the map of what has come, by Seq -/
def seqPairL (x : LEnt) : AV × AV := (.int .i64 x.e.seq, lentAV x)
def seqOfL (acc : List LEnt) (s : Int) : Option LEnt := acc.find? fun x => x.e.seq == s
def entL0 : AV := .agg [.nilsl, .int .i64 0, .nilsl, .int .i64 0, .int .i64 0, .int .i64 0, .nilsl]
def entOL : Option LEnt → AV
  | some x => lentAV x
  | none => entL0
theorem lentAV_memOK (x : LEnt) : (lentAV x).memOK = true := by simp [lentAV, Lp.av, AV.memOK]
/-- a list that is lent: the first of what lies there -/
structure LList (H : Heap) (n : Nat) (p : Lp) (l : List LEnt) : Prop where
  lt : p.k < n
  at' : H p.k = some (.arr p.ver 7 p.els)
  len : l.length ≤ p.els.length
  tk : p.els.take l.length = l.map lentAV
  ok : ∀ x ∈ l, x.ok H n
theorem LList.mono {H H' : Heap} {n n' : Nat} {p : Lp} {l : List LEnt} (h : LList H n p l) (hH : ∀ k, k < n → H' k = H k) (hn : n ≤ n') : LList H' n' p l :=
  ⟨Nat.lt_of_lt_of_le h.lt hn, (hH _ h.lt).trans h.at', h.len, h.tk, fun x hx => (h.ok x hx).mono hH hn⟩
theorem LList.frz {H : Heap} {n : Nat} {p : Lp} {l : List LEnt} (h : LList H n p l) : Frz H 0 (p.av l.length) (entsAV (l.map (·.e))) :=
  .osl h.at' (Nat.zero_le _) (by have := h.len; omega) (by rw [List.drop_zero, h.tk]; exact lents_frz l h.ok)
theorem LList.nth {H : Heap} {n : Nat} {p : Lp} {l : List LEnt} (h : LList H n p l) {i : Nat} (hi : i < l.length) : nth p.els i = lentAV (l.getD i default) := by
  rw [← nth_map lentAV l i hi, ← h.tk]
  simp [Sx.nth, List.getD, hi]
/-! entries of one's own: their bytes lie in memory of their own -/
structure Lp.mine (H : Heap) (lo hi : Nat) (p : Lp) (b : List UInt8) : Prop where
  at' : H p.k = some (.arr p.ver 1 p.els)
  els : p.els = b.map byteAV
  lo : lo ≤ p.k
  hi : p.k < hi
theorem Lp.mine.ok {H : Heap} {lo hi : Nat} {p : Lp} {b : List UInt8} (h : p.mine H lo hi b) : p.ok H hi b := ⟨⟨h.at', by rw [h.els]; simp, by rw [h.els, List.take_of_length_le (by simp)]⟩, h.hi⟩
theorem Lp.mine.mono {H H' : Heap} {lo hi hi' : Nat} {p : Lp} {b : List UInt8} (h : p.mine H lo hi b) (hH : ∀ k, lo ≤ k → k < hi → H' k = H k) (hh : hi ≤ hi') : p.mine H' lo hi' b := ⟨(hH _ h.lo h.hi).trans h.at', h.els, h.lo, Nat.lt_of_lt_of_le h.hi hh⟩
theorem Lp.mine.low {H : Heap} {lo lo' hi : Nat} {p : Lp} {b : List UInt8} (h : p.mine H lo hi b) (hl : lo' ≤ lo) : p.mine H lo' hi b := ⟨h.at', h.els, Nat.le_trans hl h.lo, h.hi⟩
theorem Lp.mine.frz {H : Heap} {lo hi n : Nat} {p : Lp} {b : List UInt8} (h : p.mine H lo hi b) (hn : n ≤ lo) : Frz H n (p.av b.length) (bys b) :=
  .osl h.at' (Nat.le_trans hn h.lo) (by rw [h.els]; simp) (by rw [List.drop_zero, h.els, List.take_of_length_le (by simp)]; exact frzL_kl _ (kls0_bytes b n))
structure LEnt.mine (H : Heap) (lo hi : Nat) (x : LEnt) : Prop where
  r : x.r.mine H lo hi x.e.row
  q : x.q.mine H lo hi x.e.qual
  v : x.v.mine H lo hi x.e.value
  rq : x.r.k < x.q.k
  qv : x.q.k < x.v.k
theorem LEnt.mine.ok {H : Heap} {lo hi : Nat} {x : LEnt} (h : x.mine H lo hi) : x.ok H hi := ⟨h.r.ok, h.q.ok, h.v.ok⟩
theorem LEnt.mine.mono {H H' : Heap} {lo hi hi' : Nat} {x : LEnt} (h : x.mine H lo hi) (hH : ∀ k, lo ≤ k → k < hi → H' k = H k) (hh : hi ≤ hi') : x.mine H' lo hi' := ⟨h.r.mono hH hh, h.q.mono hH hh, h.v.mono hH hh, h.rq, h.qv⟩
theorem LEnt.mine.low {H : Heap} {lo lo' hi : Nat} {x : LEnt} (h : x.mine H lo hi) (hl : lo' ≤ lo) : x.mine H lo' hi := ⟨h.r.low hl, h.q.low hl, h.v.low hl, h.rq, h.qv⟩
theorem LEnt.mine.frz {H : Heap} {lo hi n : Nat} {x : LEnt} (h : x.mine H lo hi) (hn : n ≤ lo) : Frz H n (lentAV x) (entAV x.e) :=
  .agg (.cons (h.r.frz hn) (.cons (.kl trivial) (.cons (h.q.frz hn) (.cons (.kl trivial) (.cons (.kl trivial) (.cons (.kl trivial) (.cons (h.v.frz hn) .nil)))))))
def LEnt.ks (x : LEnt) : List Nat := [x.r.k, x.q.k, x.v.k]
theorem LEnt.mine.in' {H : Heap} {lo hi : Nat} {x : LEnt} (h : x.mine H lo hi) {k : Nat} (hk : k ∈ x.ks) : lo ≤ k ∧ k < hi := by
  simp only [LEnt.ks, List.mem_cons, List.not_mem_nil, or_false] at hk
  rcases hk with rfl | rfl | rfl
  · exact ⟨h.r.lo, h.r.hi⟩
  · exact ⟨h.q.lo, h.q.hi⟩
  · exact ⟨h.v.lo, h.v.hi⟩
theorem LEnt.mine.nodup {H : Heap} {lo hi : Nat} {x : LEnt} (h : x.mine H lo hi) : x.ks.Nodup := by
  have h1 := h.rq; have h2 := h.qv
  simp [LEnt.ks]; omega
structure MineL (H : Heap) (lo hi : Nat) (xs : List LEnt) : Prop where
  all : ∀ x ∈ xs, x.mine H lo hi
  nd : (xs.flatMap LEnt.ks).Nodup
theorem MineL.nil (H : Heap) (lo hi : Nat) : MineL H lo hi [] := ⟨fun _ h => by (cases h), .nil⟩
theorem MineL.mono {H H' : Heap} {lo hi hi' : Nat} {xs : List LEnt} (h : MineL H lo hi xs) (hH : ∀ k, lo ≤ k → k < hi → H' k = H k) (hh : hi ≤ hi') : MineL H' lo hi' xs := ⟨fun x hx => (h.all x hx).mono hH hh, h.nd⟩
theorem MineL.low {H : Heap} {lo lo' hi : Nat} {xs : List LEnt} (h : MineL H lo hi xs) (hl : lo' ≤ lo) : MineL H lo' hi xs := ⟨fun x hx => (h.all x hx).low hl, h.nd⟩
theorem MineL.in' {H : Heap} {lo hi : Nat} {xs : List LEnt} (h : MineL H lo hi xs) {k : Nat} (hk : k ∈ xs.flatMap LEnt.ks) : lo ≤ k ∧ k < hi := by
  obtain ⟨x, hx, hk⟩ := List.mem_flatMap.1 hk
  exact (h.all x hx).in' hk
theorem MineL.perm {H : Heap} {lo hi : Nat} {xs ys : List LEnt} (h : MineL H lo hi xs) (hp : ys.Perm xs) : MineL H lo hi ys :=
  ⟨fun x hx => h.all x (hp.mem_iff.1 hx), (hp.flatMap_right _).nodup_iff.2 h.nd⟩
theorem MineL.snoc {H : Heap} {lo mi hi : Nat} {xs : List LEnt} {x : LEnt} (h : MineL H lo mi xs) (hx : x.mine H mi hi) (hl : lo ≤ mi) (hh : mi ≤ hi) : MineL H lo hi (xs ++ [x]) := by
  refine ⟨fun y hy => ?_, ?_⟩
  · rcases List.mem_append.1 hy with h9 | h9
    · exact (h.all y h9).mono (fun _ _ _ => rfl) hh
    · rw [List.mem_singleton.1 h9]; exact hx.low hl
  · rw [List.flatMap_append, List.nodup_append]
    refine ⟨h.nd, by simpa using hx.nodup, fun a ha b hb => ?_⟩
    have h1 := (h.in' ha).2
    have h2 := (hx.in' (by simpa using hb)).1
    omega
theorem MineL.frz {H : Heap} {lo hi n : Nat} (hn : n ≤ lo) : ∀ {xs : List LEnt}, MineL H lo hi xs → FrzL H n (xs.map lentAV) ((xs.map (·.e)).map entAV)
  | [], _ => .nil
  | x :: xs, h => .cons ((h.all x (by simp)).frz hn) (MineL.frz hn ⟨fun y hy => h.all y (by simp [hy]), by have := h.nd; rw [List.flatMap_cons, List.nodup_append] at this; exact this.2.1⟩)
theorem MineL.ok {H : Heap} {lo hi : Nat} {xs : List LEnt} (h : MineL H lo hi xs) : ∀ x ∈ xs, x.ok H hi := fun x hx => (h.all x hx).ok
/-- a list of one's own is sorted: its entries' bytes lie elsewhere -/
structure LEnt.there (H : Heap) (k : Nat) (x : LEnt) : Prop where
  r : x.r.here H x.e.row
  q : x.q.here H x.e.qual
  v : x.v.here H x.e.value
  ne : k ∉ x.ks
theorem LEnt.there.mono {H H' : Heap} {k : Nat} {x : LEnt} (h : x.there H k) (hj : ∀ j, j ≠ k → H' j = H j) : x.there H' k := by
  have h1 := h.ne
  simp only [LEnt.ks, List.mem_cons, List.not_mem_nil, or_false, not_or] at h1
  exact ⟨h.r.mono (hj _ (Ne.symm h1.1)), h.q.mono (hj _ (Ne.symm h1.2.1)), h.v.mono (hj _ (Ne.symm h1.2.2)), h.ne⟩
theorem Lp.here.frz {H : Heap} {p : Lp} {b : List UInt8} (h : p.here H b) : Frz H 0 (p.av b.length) (bys b) :=
  .osl h.at' (Nat.zero_le _) (by have := h.len; omega) (by rw [List.drop_zero, h.tk]; exact frzL_kl _ (kls0_bytes b 0))
theorem LEnt.there.frz {H : Heap} {k : Nat} {x : LEnt} (h : x.there H k) : Frz H 0 (lentAV x) (entAV x.e) :=
  .agg (.cons h.r.frz (.cons (.kl trivial) (.cons h.q.frz (.cons (.kl trivial) (.cons (.kl trivial) (.cons (.kl trivial) (.cons h.v.frz .nil)))))))
/-- an answer of one's own: the list lies at ko, its bytes behind -/
structure OwnA (H : Heap) (lo hi : Nat) (ko ver : Nat) (xs : List LEnt) : Prop where
  at' : H ko = some (.arr ver 7 (xs.map lentAV))
  ge : lo ≤ ko
  lt : ko < hi
  mine : MineL H lo hi xs
  ne : ko ∉ xs.flatMap LEnt.ks
theorem OwnA.mono {H H' : Heap} {lo hi hi' ko ver : Nat} {xs : List LEnt} (h : OwnA H lo hi ko ver xs) (hH : ∀ k, lo ≤ k → k < hi → H' k = H k) (hh : hi ≤ hi') : OwnA H' lo hi' ko ver xs :=
  ⟨(hH _ h.ge h.lt).trans h.at', h.ge, Nat.lt_of_lt_of_le h.lt hh, h.mine.mono hH hh, h.ne⟩
theorem OwnA.low {H : Heap} {lo lo' hi ko ver : Nat} {xs : List LEnt} (h : OwnA H lo hi ko ver xs) (hl : lo' ≤ lo) : OwnA H lo' hi ko ver xs := ⟨h.at', Nat.le_trans hl h.ge, h.lt, h.mine.low hl, h.ne⟩
theorem OwnA.frz {H : Heap} {lo hi n ko ver : Nat} {xs : List LEnt} (h : OwnA H lo hi ko ver xs) (hn : n ≤ lo) : Frz H n (.osl ko ver 0 xs.length) (entsAV (xs.map (·.e))) :=
  .osl h.at' (Nat.le_trans hn h.ge) (by simp) (by rw [List.drop_zero, List.take_of_length_le (by simp)]; exact h.mine.frz hn)
/-- an answer of one's own, or a nil one -/
def AnsU (H : Heap) (lo hi : Nat) (a : AV) (es : List Ent) : Prop := (a = .nilsl ∧ es = []) ∨ ∃ ko ver xs, a = .osl ko ver 0 xs.length ∧ xs.map (·.e) = es ∧ OwnA H lo hi ko ver xs
theorem AnsU.nil (H : Heap) (lo hi : Nat) : AnsU H lo hi .nilsl [] := .inl ⟨rfl, rfl⟩
theorem AnsU.low {H : Heap} {lo lo' hi : Nat} {a : AV} {es : List Ent} (h : AnsU H lo hi a es) (hl : lo' ≤ lo) : AnsU H lo' hi a es := by
  rcases h with h | ⟨ko, ver, xs, e, h1, h2⟩
  · exact .inl h
  · exact .inr ⟨ko, ver, xs, e, h1, h2.low hl⟩
theorem AnsU.frz {H : Heap} {lo hi n : Nat} {a : AV} {es : List Ent} (h : AnsU H lo hi a es) (hn : n ≤ lo) : Frz H n a (entsAV es) := by
  rcases h with ⟨rfl, rfl⟩ | ⟨ko, ver, xs, rfl, h1, h2⟩
  · exact .nilsl
  · rw [← h1]; exact h2.frz hn
theorem AnsU.strip {H : Heap} {lo hi : Nat} {a : AV} {es : List Ent} (h : AnsU H lo hi a es) : Sx.strip true a = a := by
  rcases h with ⟨rfl, _⟩ | ⟨_, _, _, rfl, _⟩ <;> rfl
/-- what a call answers that makes a list of its own -/
def AnsK (n : Nat) (H : Heap) (es : List Ent) (err : Int) (res : ARes) (H' : Heap) (n' : Nat) : Prop := ∃ a, res = .val (.tup [a, .int .i64 err]) ∧ AnsU H' n n' a es ∧ n ≤ n' ∧ ∀ k, k < n → H' k = H k
theorem AnsK.fin {P : Program} {f : FuncId} {args : List AV} {H : Heap} {n : Nat} {es : List Ent} {err : Int} (h : ACalls P f args H n (AnsK n H es err)) : Ret P f args H n (.tup [entsAV es, .int .i64 err]) H n :=
  Ret.fin (h.mono fun res H1 n1 ⟨a, hr, ha, _, hlow⟩ => ⟨_, hr, hlow, .tup (.cons (ha.frz (Nat.le_refl _)) (.cons (.kl trivial) .nil))⟩)
/-- the same, never nil -/
def AnsO (n : Nat) (H : Heap) (es : List Ent) (err : Int) (res : ARes) (H' : Heap) (n' : Nat) : Prop := ∃ ko ver xs, res = .val (.tup [.osl ko ver 0 xs.length, .int .i64 err]) ∧ xs.map (·.e) = es ∧ OwnA H' n n' ko ver xs ∧ n ≤ n' ∧ ∀ k, k < n → H' k = H k
theorem AnsK.own {P : Program} {f : FuncId} {args : List AV} {H : Heap} {n : Nat} {es : List Ent} {err : Int} (h : ACalls P f args H n (AnsK n H es err)) : ACalls P f args H n (AnsO n H es err) := by
  refine h.adopt fun res H1 n1 ⟨a, hr, ha, hn, hlow⟩ => ?_
  rcases ha with ⟨rfl, rfl⟩ | ⟨ko, ver, xs, rfl, h1, h2⟩
  · exact .inr ⟨_, _, 7, hr, Adp.tup (m := [.osl n1 0 0 0, .int .i64 err]) ⟨Adp.nilsl _, Adp.refl _ _, trivial⟩, n1, 0, [], rfl, rfl, ⟨Heap.put_same _ _ _, hn, by omega, MineL.nil _ _ _, by simp⟩, by omega, fun k hk => (Heap.put_ne _ _ (by omega)).trans (hlow k hk)⟩
  · exact .inl ⟨ko, ver, xs, hr, h1, h2, hn, hlow⟩
end Go.Rt

namespace Go.Rt
open Go Go.Sx

/-- whose a key is -/
inductive Tg where
  | free
  | sys (i : Nat)
  | b (i : Nat)
  | e (i : Nat)
  deriving DecidableEq

/-- a byte string that was handed out: where, how long; where the lengthened one lies -/
structure BS where
  k : Nat
  v : Nat
  l : Nat
  gk : Nat
  gv : Nat
instance : Inhabited BS := ⟨⟨0, 0, 0, 0, 0⟩⟩
def BS.av (s : BS) : AV := .osl s.k s.v 0 s.l
def BS.gav (s : BS) : AV := .osl s.gk s.gv 0 (2 * s.l + 70)
/-- a list that was handed out -/
def ES.gav (s : BS) : AV := .osl s.gk s.gv 0 (3 * s.l + 20)
def mkB (i : Nat) : AV := .int .u8 ((1 + i % 250 : Nat) : Int)
def mkE (i : Nat) : AV := .agg [.nilsl, .int .i64 (-10 - (i : Int)), .nilsl, .int .i64 0, .int .i64 0, .int .i64 0, .nilsl]
theorem markW (i : Nat) (h : i < 4611686018427387904) : IntKind.u8.wrap (IntKind.i64.wrap (1 + (i : Int).tmod 250)) = ((1 + i % 250 : Nat) : Int) := by
  have h1 : (i : Int).tmod 250 = ((i % 250 : Nat) : Int) := by rw [Int.tmod_eq_emod_of_nonneg (by omega)]; omega
  rw [h1, w64 (by omega) (by omega), IntKind.wrap_u8]
  omega

/-- the memory of a thing that was handed out: es: how wide an element is; mk: its mark; g: how long it is when lengthened; ph: 0 as it came, 1 full, 2 lengthened -/
def BOK (es : Nat) (mk : AV) (g : Nat) (H : Heap) (tg : Nat → Tg) (t : Tg) (s : BS) (ph : Nat) : Prop :=
  tg s.k = t ∧ (ph = 0 → ∃ X, H s.k = some (.arr s.v es X) ∧ X.length = s.l ∧ ∀ x ∈ X, x.sz = es) ∧ (ph = 1 → H s.k = some (.arr s.v es (List.replicate s.l mk))) ∧
    (ph = 2 → (∃ L, s.l ≤ L ∧ H s.k = some (.arr s.v es (List.replicate L mk))) ∧ tg s.gk = t ∧ H s.gk = some (.arr s.gv es (List.replicate g mk)))
theorem BOK.frame {es : Nat} {mk : AV} {g : Nat} {H H' : Heap} {tg : Nat → Tg} {t : Tg} {s : BS} {ph : Nat} (h : BOK es mk g H tg t s ph) (hH : ∀ k, tg k = t → H' k = H k) : BOK es mk g H' tg t s ph := by
  obtain ⟨h0, h1, h2, h3⟩ := h
  refine ⟨h0, fun e => ?_, fun e => (hH _ h0).trans (h2 e), fun e => ?_⟩
  · obtain ⟨X, a, b⟩ := h1 e; exact ⟨X, (hH _ h0).trans a, b⟩
  · obtain ⟨⟨L, a, b⟩, c, d⟩ := h3 e; exact ⟨⟨L, a, (hH _ h0).trans b⟩, c, (hH _ c).trans d⟩
theorem BOK.retag {es : Nat} {mk : AV} {g : Nat} {H : Heap} {tg tg' : Nat → Tg} {t : Tg} {s : BS} {ph : Nat} (h : BOK es mk g H tg t s ph) (ht : ∀ k, tg k = t → tg' k = t) : BOK es mk g H tg' t s ph := by
  obtain ⟨h0, h1, h2, h3⟩ := h
  exact ⟨ht _ h0, h1, h2, fun e => by obtain ⟨a, c, d⟩ := h3 e; exact ⟨a, ht _ c, d⟩⟩

/-- where the book's own parts lie -/
structure BkA where
  kb : Nat
  kE : Nat
  kG : Nat
  kB : Nat
  kH : Nat
  vE : Nat
  vG : Nat
  vB : Nat
  vH : Nat
def ph (i a m : Nat) : Nat := if i < m then 2 else if i < a then 1 else 0
theorem ph2 {i a m : Nat} (h : i < m) : ph i a m = 2 := if_pos h
theorem ph1 {i a m : Nat} (h : m ≤ i) (h' : i < a) : ph i a m = 1 := by unfold ph; rw [if_neg (by omega), if_pos h']
theorem ph0 {i a m : Nat} (h : m ≤ a) (h' : a ≤ i) : ph i a m = 0 := by unfold ph; rw [if_neg (by omega), if_neg (by omega)]

/-- the book's five lists, as its object holds them -/
def bookL (A : BkA) (bs : List BS) (m : Nat) (es : List BS) (p : Nat) : List AV := [.osl A.kE A.vE 0 es.length, .osl A.kG A.vG 0 p, .osl A.kB A.vB 0 bs.length, .osl A.kH A.vH 0 m, .nilsl]
/-- the book: object `obj` (what else lies behind the five lists: rest) -/
structure Bk (H : Heap) (n : Nat) (tg : Nat → Tg) (A : BkA) (bs : List BS) (a m : Nat) (es : List BS) (c p : Nat) : Prop where
  lE : H A.kE = some (.arr A.vE 1 (es.map BS.av))
  lG : H A.kG = some (.arr A.vG 1 ((es.take p).map ES.gav))
  lB : H A.kB = some (.arr A.vB 1 (bs.map BS.av))
  lH : H A.kH = some (.arr A.vH 1 ((bs.take m).map BS.gav))
  tb : tg A.kb = .sys 0
  tE : tg A.kE = .sys 1
  tG : tg A.kG = .sys 2
  tB : tg A.kB = .sys 3
  tH : tg A.kH = .sys 4
  lt : ∀ k, tg k ≠ .free → k < n
  ma : m ≤ a
  ab : a ≤ bs.length
  pc : p ≤ c
  ce : c ≤ es.length
  okb : ∀ i, i < bs.length → BOK 1 (mkB i) (2 * (bs.getD i default).l + 70) H tg (.b i) (bs.getD i default) (ph i a m)
  oke : ∀ i, i < es.length → BOK 7 (mkE i) (3 * (es.getD i default).l + 20) H tg (.e i) (es.getD i default) (ph i c p)
  lb : ∀ s ∈ bs, s.l ≤ 140000
  le : ∀ s ∈ es, s.l ≤ 400000000
  nb : bs.length ≤ 1000000000000
  ne : es.length ≤ 1000000000

theorem Bk.frame {H H' : Heap} {n n' : Nat} {tg : Nat → Tg} {A : BkA} {bs : List BS} {a m : Nat} {es : List BS} {c p : Nat} (h : Bk H n tg A bs a m es c p) (hH : ∀ k, tg k ≠ .free → k ≠ A.kb → H' k = H k) (hn : n ≤ n') : Bk H' n' tg A bs a m es c p :=
  { h with
    lE := (hH _ (by rw [h.tE]; simp) (by intro e; have := h.tb; rw [← e, h.tE] at this; simp at this)).trans h.lE
    lG := (hH _ (by rw [h.tG]; simp) (by intro e; have := h.tb; rw [← e, h.tG] at this; simp at this)).trans h.lG
    lB := (hH _ (by rw [h.tB]; simp) (by intro e; have := h.tb; rw [← e, h.tB] at this; simp at this)).trans h.lB
    lH := (hH _ (by rw [h.tH]; simp) (by intro e; have := h.tb; rw [← e, h.tH] at this; simp at this)).trans h.lH
    lt := fun k hk => Nat.lt_of_lt_of_le (h.lt k hk) hn
    okb := fun i hi => (h.okb i hi).frame fun k hk => hH k (by rw [hk]; simp) (by intro e; have := h.tb; rw [← e, hk] at this; simp at this)
    oke := fun i hi => (h.oke i hi).frame fun k hk => hH k (by rw [hk]; simp) (by intro e; have := h.tb; rw [← e, hk] at this; simp at this) }
/-- free keys get owners -/
theorem Bk.retag {H : Heap} {n : Nat} {tg tg' : Nat → Tg} {A : BkA} {bs : List BS} {a m : Nat} {es : List BS} {c p : Nat} (h : Bk H n tg A bs a m es c p) (ht : ∀ k, tg k ≠ .free → tg' k = tg k) (hl : ∀ k, tg' k ≠ .free → k < n) : Bk H n tg' A bs a m es c p :=
  { h with
    tb := (ht _ (by rw [h.tb]; simp)).trans h.tb
    tE := (ht _ (by rw [h.tE]; simp)).trans h.tE
    tG := (ht _ (by rw [h.tG]; simp)).trans h.tG
    tB := (ht _ (by rw [h.tB]; simp)).trans h.tB
    tH := (ht _ (by rw [h.tH]; simp)).trans h.tH
    lt := hl
    okb := fun i hi => (h.okb i hi).retag fun k hk => (ht k (by rw [hk]; simp)).trans hk
    oke := fun i hi => (h.oke i hi).retag fun k hk => (ht k (by rw [hk]; simp)).trans hk }

theorem getD_set_self {l : List BS} {i : Nat} {s : BS} (h : i < l.length) : (l.set i s).getD i default = s := by simp [List.getD, h]
theorem getD_set_ne {l : List BS} {i j : Nat} {s : BS} (h : j ≠ i) : (l.set i s).getD j default = l.getD j default := by simp [List.getD, List.getElem?_set_ne (Ne.symm h)]
theorem getD_mem {l : List BS} {i : Nat} (h : i < l.length) : l.getD i default ∈ l := by simp [List.getD, List.getElem?_eq_getElem h]
section
variable {H H' : Heap} {n n' : Nat} {tg : Nat → Tg} {A : BkA} {bs : List BS} {a m : Nat} {es : List BS} {c p : Nat}
theorem Bk.frame1 (h : Bk H n tg A bs a m es c p) {k0 : Nat} {t : Tg} (hk0 : tg k0 = t) (ht : ∀ i, t ≠ .sys i) (hH : ∀ k, k ≠ k0 → H' k = H k) :
    H' A.kE = H A.kE ∧ H' A.kG = H A.kG ∧ H' A.kB = H A.kB ∧ H' A.kH = H A.kH ∧ H' A.kb = H A.kb := by
  refine ⟨hH _ ?_, hH _ ?_, hH _ ?_, hH _ ?_, hH _ ?_⟩ <;> intro e
  · exact ht 1 (by rw [← hk0, ← e, h.tE])
  · exact ht 2 (by rw [← hk0, ← e, h.tG])
  · exact ht 3 (by rw [← hk0, ← e, h.tB])
  · exact ht 4 (by rw [← hk0, ← e, h.tH])
  · exact ht 0 (by rw [← hk0, ← e, h.tb])
/-- one byte string is written full -/
theorem Bk.fill (h : Bk H n tg A bs a m es c p) (ha : a < bs.length) (hk : H' (bs.getD a default).k = some (.arr (bs.getD a default).v 1 (List.replicate (bs.getD a default).l (mkB a)))) (hH : ∀ k, k ≠ (bs.getD a default).k → H' k = H k) : Bk H' n tg A bs (a + 1) m es c p := by
  have ht := (h.okb a ha).1
  obtain ⟨f1, f2, f3, f4, _⟩ := h.frame1 ht (by simp) hH
  have h1 := h.ma
  have h2 := h.ab
  exact { h with
    lE := f1.trans h.lE
    lG := f2.trans h.lG
    lB := f3.trans h.lB
    lH := f4.trans h.lH
    ma := by omega
    ab := by omega
    okb := fun i hi => by
      by_cases e : i = a
      · subst e
        rw [ph1 (by omega) (by omega)]
        exact ⟨ht, fun e => by simp at e, fun _ => hk, fun e => by simp at e⟩
      · have : ph i (a + 1) m = ph i a m := by unfold ph; split; rfl; by_cases h9 : i < a; rw [if_pos h9, if_pos (by omega)]; rw [if_neg h9, if_neg (by omega)]
        rw [this]
        exact (h.okb i hi).frame fun k hk => hH k (by intro e9; rw [e9, ht] at hk; simp at hk; exact e hk.symm)
    oke := fun i hi => (h.oke i hi).frame fun k hk => hH k (by intro e9; rw [e9, ht] at hk; simp at hk) }
/-- one list is written full -/
theorem Bk.fillE (h : Bk H n tg A bs a m es c p) (hc : c < es.length) (hk : H' (es.getD c default).k = some (.arr (es.getD c default).v 7 (List.replicate (es.getD c default).l (mkE c)))) (hH : ∀ k, k ≠ (es.getD c default).k → H' k = H k) : Bk H' n tg A bs a m es (c + 1) p := by
  have ht := (h.oke c hc).1
  obtain ⟨f1, f2, f3, f4, _⟩ := h.frame1 ht (by simp) hH
  have h1 := h.pc
  have h2 := h.ce
  exact { h with
    lE := f1.trans h.lE
    lG := f2.trans h.lG
    lB := f3.trans h.lB
    lH := f4.trans h.lH
    pc := by omega
    ce := by omega
    oke := fun i hi => by
      by_cases e : i = c
      · subst e
        rw [ph1 (by omega) (by omega)]
        exact ⟨ht, fun e => by simp at e, fun _ => hk, fun e => by simp at e⟩
      · have : ph i (c + 1) p = ph i c p := by unfold ph; split; rfl; by_cases h9 : i < c; rw [if_pos h9, if_pos (by omega)]; rw [if_neg h9, if_neg (by omega)]
        rw [this]
        exact (h.oke i hi).frame fun k hk => hH k (by intro e9; rw [e9, ht] at hk; simp at hk; exact e hk.symm)
    okb := fun i hi => (h.okb i hi).frame fun k hk => hH k (by intro e9; rw [e9, ht] at hk; simp at hk) }
/-- a key gets an owner -/
def tgPut (tg : Nat → Tg) (k : Nat) (t : Tg) : Nat → Tg := fun j => if j = k then t else tg j
theorem tgPut_same (tg : Nat → Tg) (k : Nat) (t : Tg) : tgPut tg k t k = t := if_pos rfl
theorem tgPut_keep {tg : Nat → Tg} {k : Nat} {t : Tg} (h : tg k = t ∨ tg k = .free) {j : Nat} (hj : tg j ≠ .free) : tgPut tg k t j = tg j := by
  unfold tgPut; split
  · rename_i e; subst e; rcases h with h | h
    · exact h.symm
    · exact absurd h hj
  · rfl
theorem take_set_succ {l : List BS} {i : Nat} {s : BS} (h : i < l.length) (f : BS → AV) : ((l.set i s).take (i + 1)).map f = (l.take i).map f ++ [f s] := by
  rw [List.take_succ_eq_append_getElem (by simpa using h), List.getElem_set_self, List.take_set_of_le (Nat.le_refl _)]; simp
/-- one byte string is lengthened -/
theorem Bk.grow (h : Bk H n tg A bs a m es c p) (hm : m < a) (hn : n ≤ n') {gk gv L : Nat} (hg : gk = (bs.getD m default).k ∨ n ≤ gk) (hgn : gk < n') (hL : (bs.getD m default).l ≤ L)
    (hk : H' (bs.getD m default).k = some (.arr (bs.getD m default).v 1 (List.replicate L (mkB m)))) (hgk : H' gk = some (.arr gv 1 (List.replicate (2 * (bs.getD m default).l + 70) (mkB m))))
    {vH : Nat} (hkH : H' A.kH = some (.arr vH 1 ((bs.take m).map BS.gav ++ [.osl gk gv 0 (2 * (bs.getD m default).l + 70)])))
    (hH : ∀ k, tg k ≠ .free → k ≠ (bs.getD m default).k → k ≠ A.kH → k ≠ A.kb → H' k = H k) :
    Bk H' n' (tgPut tg gk (.b m)) { A with vH := vH } (bs.set m { bs.getD m default with gk := gk, gv := gv }) a (m + 1) es c p := by
  have h1 := h.ab
  have hml : m < bs.length := by omega
  have ht := (h.okb m hml).1
  have hfr : ∀ k, n ≤ k → tg k = .free := fun k hk => Classical.byContradiction fun hne => by have := h.lt k hne; omega
  have hgt : tg gk = .b m ∨ tg gk = .free := by rcases hg with e | e; rw [e]; exact .inl ht; exact .inr (hfr _ e)
  have kp : ∀ {j}, tg j ≠ .free → tgPut tg gk (.b m) j = tg j := fun hj => tgPut_keep hgt hj
  have ne : ∀ {k t}, tg k = t → t ≠ .b m → t ≠ .sys 4 → t ≠ .sys 0 → t ≠ .free → H' k = H k := fun {k t} e1 e2 e3 e4 e5 => hH k (by rw [e1]; exact e5) (by intro e; rw [e, ht] at e1; exact e2 e1.symm) (by intro e; rw [e, h.tH] at e1; exact e3 e1.symm) (by intro e; rw [e, h.tb] at e1; exact e4 e1.symm)
  exact {
    lE := (ne h.tE (by simp) (by simp) (by simp) (by simp)).trans h.lE
    lG := (ne h.tG (by simp) (by simp) (by simp) (by simp)).trans h.lG
    lB := by
      rw [ne h.tB (by simp) (by simp) (by simp) (by simp), h.lB]
      congr 2
      refine List.ext_getElem (by simp) fun i h5 h6 => ?_
      simp only [List.getElem_map, List.getElem_set]
      split
      · rename_i e; subst e; simp [BS.av, List.getD, List.getElem?_eq_getElem hml]
      · rfl
    lH := by rw [take_set_succ hml]; exact hkH
    tb := (kp (by rw [h.tb]; simp)).trans h.tb
    tE := (kp (by rw [h.tE]; simp)).trans h.tE
    tG := (kp (by rw [h.tG]; simp)).trans h.tG
    tB := (kp (by rw [h.tB]; simp)).trans h.tB
    tH := (kp (by rw [h.tH]; simp)).trans h.tH
    lt := fun k hk => by
      by_cases e : k = gk
      · omega
      · have : tgPut tg gk (.b m) k = tg k := if_neg e
        rw [this] at hk
        have := h.lt k hk; omega
    ma := by omega
    ab := by simpa using h1
    pc := h.pc
    ce := h.ce
    okb := fun i hi => by
      have hi : i < bs.length := by simpa using hi
      by_cases e : i = m
      · subst e
        rw [getD_set_self hml, ph2 (by omega)]
        exact ⟨(kp (by rw [ht]; simp)).trans ht, fun e => by simp at e, fun e => by simp at e, fun _ => ⟨⟨L, hL, hk⟩, tgPut_same _ _ _, hgk⟩⟩
      · have : ph i a (m + 1) = ph i a m := by unfold ph; by_cases h9 : i < m; rw [if_pos h9, if_pos (by omega)]; rw [if_neg h9, if_neg (by omega)]
        rw [getD_set_ne e, this]
        exact ((h.okb i hi).frame fun k hk => ne hk (by simp; omega) (by simp) (by simp) (by simp)).retag fun k hk => (kp (by rw [hk]; simp)).trans hk
    oke := fun i hi => ((h.oke i hi).frame fun k hk => ne hk (by simp) (by simp) (by simp) (by simp)).retag fun k hk => (kp (by rw [hk]; simp)).trans hk
    lb := fun s hs => by
      rcases List.mem_or_eq_of_mem_set hs with h9 | h9
      · exact h.lb s h9
      · rw [h9]; exact h.lb (bs.getD m default) (getD_mem hml)
    le := h.le
    nb := by simpa using h.nb
    ne := h.ne }
/-- one list is lengthened -/
theorem Bk.growE (h : Bk H n tg A bs a m es c p) (hp : p < c) (hn : n ≤ n') {gk gv L : Nat} (hg : gk = (es.getD p default).k ∨ n ≤ gk) (hgn : gk < n') (hL : (es.getD p default).l ≤ L)
    (hk : H' (es.getD p default).k = some (.arr (es.getD p default).v 7 (List.replicate L (mkE p)))) (hgk : H' gk = some (.arr gv 7 (List.replicate (3 * (es.getD p default).l + 20) (mkE p))))
    {vG : Nat} (hkG : H' A.kG = some (.arr vG 1 ((es.take p).map ES.gav ++ [.osl gk gv 0 (3 * (es.getD p default).l + 20)])))
    (hH : ∀ k, tg k ≠ .free → k ≠ (es.getD p default).k → k ≠ A.kG → k ≠ A.kb → H' k = H k) :
    Bk H' n' (tgPut tg gk (.e p)) { A with vG := vG } bs a m (es.set p { es.getD p default with gk := gk, gv := gv }) c (p + 1) := by
  have h1 := h.ce
  have hml : p < es.length := by omega
  have ht := (h.oke p hml).1
  have hfr : ∀ k, n ≤ k → tg k = .free := fun k hk => Classical.byContradiction fun hne => by have := h.lt k hne; omega
  have hgt : tg gk = .e p ∨ tg gk = .free := by rcases hg with e | e; rw [e]; exact .inl ht; exact .inr (hfr _ e)
  have kp : ∀ {j}, tg j ≠ .free → tgPut tg gk (.e p) j = tg j := fun hj => tgPut_keep hgt hj
  have ne : ∀ {k t}, tg k = t → t ≠ .e p → t ≠ .sys 2 → t ≠ .sys 0 → t ≠ .free → H' k = H k := fun {k t} e1 e2 e3 e4 e5 => hH k (by rw [e1]; exact e5) (by intro e; rw [e, ht] at e1; exact e2 e1.symm) (by intro e; rw [e, h.tG] at e1; exact e3 e1.symm) (by intro e; rw [e, h.tb] at e1; exact e4 e1.symm)
  exact {
    lE := by
      rw [ne h.tE (by simp) (by simp) (by simp) (by simp), h.lE]
      congr 2
      refine List.ext_getElem (by simp) fun i h5 h6 => ?_
      simp only [List.getElem_map, List.getElem_set]
      split
      · rename_i e; subst e; simp [BS.av, List.getD, List.getElem?_eq_getElem hml]
      · rfl
    lG := by rw [take_set_succ hml]; exact hkG
    lB := (ne h.tB (by simp) (by simp) (by simp) (by simp)).trans h.lB
    lH := (ne h.tH (by simp) (by simp) (by simp) (by simp)).trans h.lH
    tb := (kp (by rw [h.tb]; simp)).trans h.tb
    tE := (kp (by rw [h.tE]; simp)).trans h.tE
    tG := (kp (by rw [h.tG]; simp)).trans h.tG
    tB := (kp (by rw [h.tB]; simp)).trans h.tB
    tH := (kp (by rw [h.tH]; simp)).trans h.tH
    lt := fun k hk => by
      by_cases e : k = gk
      · omega
      · have : tgPut tg gk (.e p) k = tg k := if_neg e
        rw [this] at hk
        have := h.lt k hk; omega
    ma := h.ma
    ab := h.ab
    pc := by omega
    ce := by simpa using h1
    oke := fun i hi => by
      have hi : i < es.length := by simpa using hi
      by_cases e : i = p
      · subst e
        rw [getD_set_self hml, ph2 (by omega)]
        exact ⟨(kp (by rw [ht]; simp)).trans ht, fun e => by simp at e, fun e => by simp at e, fun _ => ⟨⟨L, hL, hk⟩, tgPut_same _ _ _, hgk⟩⟩
      · have : ph i c (p + 1) = ph i c p := by unfold ph; by_cases h9 : i < p; rw [if_pos h9, if_pos (by omega)]; rw [if_neg h9, if_neg (by omega)]
        rw [getD_set_ne e, this]
        exact ((h.oke i hi).frame fun k hk => ne hk (by simp; omega) (by simp) (by simp) (by simp)).retag fun k hk => (kp (by rw [hk]; simp)).trans hk
    okb := fun i hi => ((h.okb i hi).frame fun k hk => ne hk (by simp) (by simp) (by simp) (by simp)).retag fun k hk => (kp (by rw [hk]; simp)).trans hk
    lb := h.lb
    le := fun s hs => by
      rcases List.mem_or_eq_of_mem_set hs with h9 | h9
      · exact h.le s h9
      · rw [h9]; exact h.le (es.getD p default) (getD_mem hml)
    nb := h.nb
    ne := by simpa using h.ne }
end
theorem fill_step {mk : AV} {X : List AV} {j : Nat} (h : j < X.length) : (List.replicate j mk ++ X.drop j).set j mk = List.replicate (j + 1) mk ++ X.drop (j + 1) := by
  rw [List.set_append_right _ _ (by simp), List.length_replicate, Nat.sub_self, List.drop_eq_getElem_cons h, List.set_cons_zero, List.replicate_succ', List.append_assoc]; rfl
theorem fill_len {mk : AV} {X : List AV} {j : Nat} (h : j ≤ X.length) : (List.replicate j mk ++ X.drop j).length = X.length := by simp; omega
theorem fill_nth {mk : AV} {X : List AV} {j e : Nat} (h : j < X.length) (hX : ∀ x ∈ X, x.sz = e) : (nth (List.replicate j mk ++ X.drop j) j).sz = e := by
  have : nth (List.replicate j mk ++ X.drop j) j = X[j] := by simp [nth, List.getD, List.getElem?_append_right, h]
  rw [this]; exact hX _ (List.getElem_mem h)
theorem fill_all {mk : AV} {X : List AV} : List.replicate X.length mk ++ X.drop X.length = List.replicate X.length mk := by simp
theorem grow_old {H1 H2 : Heap} {k gk ver gv l i L n1 es : Nat} {mk : AV} (hkn : k < n1) (h1 : H1 k = some (.arr ver es (List.replicate L mk))) (hL : l ≤ L) (hg : H1 gk = some (.arr gv es (List.replicate (l + i) mk)))
    (h2 : H2 gk = some (.arr gv es (List.replicate (l + i) mk)) ∨ H2 gk = some (.arr gv es (List.replicate (l + i) mk ++ [mk]))) (hr : ∀ j, j < n1 → j ≠ gk → H2 j = H1 j) : ∃ L', l ≤ L' ∧ H2 k = some (.arr ver es (List.replicate L' mk)) := by
  by_cases e : k = gk
  · subst e
    rw [h1] at hg
    simp only [Option.some.injEq, AObj.arr.injEq] at hg
    obtain ⟨rfl, _, _⟩ := hg
    rcases h2 with h2 | h2
    · exact ⟨l + i, by omega, h2⟩
    · exact ⟨l + i + 1, by omega, by rw [h2, List.replicate_succ']⟩
  · exact ⟨L, hL, (hr k hkn e).trans h1⟩
def newB (x : LEnt) : List BS := [⟨x.r.k, x.r.ver, x.e.row.length, 0, 0⟩, ⟨x.q.k, x.q.ver, x.e.qual.length, 0, 0⟩, ⟨x.v.k, x.v.ver, x.e.value.length, 0, 0⟩]
theorem newB_len (xs : List LEnt) : (xs.flatMap newB).length = 3 * xs.length := by
  induction xs with
  | nil => rfl
  | cons x xs ih => rw [List.flatMap_cons, List.length_append, ih]; simp [newB]; omega
theorem newB_snoc (xs : List LEnt) (i : Nat) (h : i < xs.length) : (xs.take (i + 1)).flatMap newB = (xs.take i).flatMap newB ++ newB (xs.getD i default) := by
  rw [List.take_succ_eq_append_getElem h, List.flatMap_append]
  simp [List.getD, List.getElem?_eq_getElem h]

theorem newB_ks (xs : List LEnt) : (xs.flatMap newB).map (·.k) = xs.flatMap LEnt.ks := by
  induction xs with
  | nil => rfl
  | cons x xs ih => rw [List.flatMap_cons, List.map_append, ih, List.flatMap_cons]; rfl
/-- the keys of an answer get owners -/
def tgAns (tg : Nat → Tg) (nb ne ko : Nat) (ks : List Nat) : Nat → Tg := fun k => if k = ko then .e ne else if k ∈ ks then .b (nb + ks.idxOf k) else tg k
theorem Lp.mine.bok {H : Heap} {lo hi : Nat} {p : Lp} {b : List UInt8} (h : p.mine H lo hi b) : ∃ X, H p.k = some (.arr p.ver 1 X) ∧ X.length = b.length ∧ ∀ x ∈ X, x.sz = 1 := by
  refine ⟨_, h.at', by rw [h.els]; simp, fun x hx => ?_⟩
  rw [h.els] at hx
  obtain ⟨y, _, rfl⟩ := List.mem_map.1 hx
  rfl
theorem newB_mem {H : Heap} {lo hi : Nat} {xs : List LEnt} (h : MineL H lo hi xs) {s : BS} (hs : s ∈ xs.flatMap newB) : (∃ X, H s.k = some (.arr s.v 1 X) ∧ X.length = s.l ∧ ∀ x ∈ X, x.sz = 1) ∧ lo ≤ s.k ∧ s.k < hi ∧ (∃ x ∈ xs, s.l = x.e.row.length ∨ s.l = x.e.qual.length ∨ s.l = x.e.value.length) := by
  obtain ⟨x, hx, hs⟩ := List.mem_flatMap.1 hs
  have hm := h.all x hx
  simp only [newB, List.mem_cons, List.not_mem_nil, or_false] at hs
  rcases hs with rfl | rfl | rfl
  · exact ⟨hm.r.bok, hm.r.lo, hm.r.hi, x, hx, .inl rfl⟩
  · exact ⟨hm.q.bok, hm.q.lo, hm.q.hi, x, hx, .inr (.inl rfl)⟩
  · exact ⟨hm.v.bok, hm.v.lo, hm.v.hi, x, hx, .inr (.inr rfl)⟩
theorem getD_app_lt {l m : List BS} {i : Nat} (h : i < l.length) : (l ++ m).getD i default = l.getD i default := by simp [List.getD, List.getElem?_append_left h]
theorem getD_app_ge {l m : List BS} {i : Nat} (h : l.length ≤ i) : (l ++ m).getD i default = m.getD (i - l.length) default := by simp [List.getD, List.getElem?_append_right h]
theorem Bk.keep {H H' : Heap} {n : Nat} {tg : Nat → Tg} {A : BkA} {bs : List BS} {a m : Nat} {es : List BS} {c p : Nat} (h : Bk H n tg A bs a m es c p) {lo hi ko ver : Nat} {xs : List LEnt} (ho : OwnA H lo hi ko ver xs) (hfree : ∀ k, lo ≤ k → k < hi → tg k = .free) (hhi : hi ≤ n)
    (hb1 : ∀ x ∈ xs, x.e.row.length ≤ 140000 ∧ x.e.qual.length ≤ 140000 ∧ x.e.value.length ≤ 140000) (hb2 : xs.length ≤ 400000000) (hnb : bs.length + 3 * xs.length ≤ 1000000000000) (hne : es.length < 1000000000)
    {vB vE : Nat} (hB : H' A.kB = some (.arr vB 1 ((bs ++ xs.flatMap newB).map BS.av))) (hE : H' A.kE = some (.arr vE 1 ((es ++ [BS.mk ko ver xs.length 0 0]).map BS.av))) (hrest : ∀ j, j ≠ A.kb → j ≠ A.kB → j ≠ A.kE → H' j = H j) :
    Bk H' n (tgAns tg bs.length es.length ko (xs.flatMap LEnt.ks)) { A with vB := vB, vE := vE } (bs ++ xs.flatMap newB) a m (es ++ [BS.mk ko ver xs.length 0 0]) c p := by
  have h1 := h.ab
  have h2 := h.ce
  have hks : ∀ k, k ∈ xs.flatMap LEnt.ks → tg k = .free ∧ k < n := fun k hk => by have := ho.mine.in' hk; exact ⟨hfree k this.1 this.2, by omega⟩
  have hkf : tg ko = .free := hfree ko ho.ge ho.lt
  have kp : ∀ {k}, tg k ≠ .free → tgAns tg bs.length es.length ko (xs.flatMap LEnt.ks) k = tg k := fun {k} hk => by
    unfold tgAns
    rw [if_neg (fun e => hk (by rw [e]; exact hkf)), if_neg (fun hin => hk (hks k hin).1)]
  have ne : ∀ {k t}, tg k = t → t ≠ .sys 0 → t ≠ .sys 1 → t ≠ .sys 3 → H' k = H k := fun {k t} e1 e2 e3 e4 => hrest k (by intro e; rw [e, h.tb] at e1; exact e2 e1.symm) (by intro e; rw [e, h.tB] at e1; exact e4 e1.symm) (by intro e; rw [e, h.tE] at e1; exact e3 e1.symm)
  have nln : ∀ k, tg k = .free → H' k = H k := fun k hk => ne hk (by simp) (by simp) (by simp)
  have hlk : (xs.flatMap LEnt.ks).length = (xs.flatMap newB).length := by rw [← newB_ks, List.length_map]
  exact {
    lE := hE
    lG := by rw [ne h.tG (by simp) (by simp) (by simp), List.take_append_of_le_length (by have := h.pc; omega)]; exact h.lG
    lB := hB
    lH := by rw [ne h.tH (by simp) (by simp) (by simp), List.take_append_of_le_length (by have := h.ma; omega)]; exact h.lH
    tb := (kp (by rw [h.tb]; simp)).trans h.tb
    tE := (kp (by rw [h.tE]; simp)).trans h.tE
    tG := (kp (by rw [h.tG]; simp)).trans h.tG
    tB := (kp (by rw [h.tB]; simp)).trans h.tB
    tH := (kp (by rw [h.tH]; simp)).trans h.tH
    lt := fun k hk => by
      unfold tgAns at hk
      split at hk
      · rename_i e; rw [e]; have := ho.lt; omega
      · split at hk
        · rename_i hin; exact (hks k hin).2
        · exact h.lt k hk
    ma := h.ma
    ab := by rw [List.length_append]; omega
    pc := h.pc
    ce := by rw [List.length_append]; omega
    okb := fun i hi => by
      by_cases hlt : i < bs.length
      · rw [getD_app_lt hlt]
        exact ((h.okb i hlt).frame fun k hk => ne hk (by simp) (by simp) (by simp)).retag fun k hk => (kp (by rw [hk]; simp)).trans hk
      · have hq : i - bs.length < (xs.flatMap newB).length := by rw [List.length_append] at hi; omega
        rw [getD_app_ge (by omega), ph0 h.ma (by omega)]
        generalize hs : (xs.flatMap newB).getD (i - bs.length) default = s
        have hmem : s ∈ xs.flatMap newB := by rw [← hs]; exact getD_mem hq
        obtain ⟨⟨X, hX1, hX2, hX3⟩, hk1, hk2, _⟩ := newB_mem ho.mine hmem
        have hsk : s.k = (xs.flatMap LEnt.ks)[i - bs.length]'(by omega) := by
          rw [← hs]
          simp only [← newB_ks, List.getElem_map, List.getD, List.getElem?_eq_getElem hq, Option.getD_some]
        have hin : s.k ∈ xs.flatMap LEnt.ks := by rw [hsk]; exact List.getElem_mem _
        refine ⟨?_, fun _ => ⟨X, (nln _ (hks _ hin).1).trans hX1, hX2, hX3⟩, fun e => by simp at e, fun e => by simp at e⟩
        have hnko : s.k ≠ ko := fun e => ho.ne (by rw [← e]; exact hin)
        unfold tgAns
        rw [if_neg hnko, if_pos hin, hsk, ho.mine.nd.idxOf_getElem]
        congr 1; omega
    oke := fun i hi => by
      by_cases hlt : i < es.length
      · rw [getD_app_lt hlt]
        exact ((h.oke i hlt).frame fun k hk => ne hk (by simp) (by simp) (by simp)).retag fun k hk => (kp (by rw [hk]; simp)).trans hk
      · have hq : i = es.length := by rw [List.length_append, List.length_singleton] at hi; omega
        subst hq
        rw [getD_app_ge (by omega), ph0 h.pc (by omega), Nat.sub_self]
        refine ⟨?_, fun _ => ⟨_, (nln _ hkf).trans ho.at', by show (xs.map lentAV).length = xs.length; simp, fun x hx => by obtain ⟨y, _, rfl⟩ := List.mem_map.1 hx; exact lentAV_sz y⟩, fun e => by simp at e, fun e => by simp at e⟩
        show tgAns tg bs.length es.length ko _ ko = _
        unfold tgAns; rw [if_pos rfl]
    lb := fun s hs => by
      rcases List.mem_append.1 hs with h9 | h9
      · exact h.lb s h9
      · obtain ⟨_, _, _, x, hx, h9⟩ := newB_mem ho.mine h9
        obtain ⟨g1, g2, g3⟩ := hb1 x hx
        rcases h9 with h9 | h9 | h9 <;> omega
    le := fun s hs => by
      rcases List.mem_append.1 hs with h9 | h9
      · exact h.le s h9
      · rw [List.mem_singleton.1 h9]; exact hb2
    nb := by rw [List.length_append, newB_len]; omega
    ne := by rw [List.length_append, List.length_singleton]; omega }

/-- answers, one behind the other -/
structure An where
  ko : Nat
  ver : Nat
  xs : List LEnt
instance : Inhabited An := ⟨⟨0, 0, []⟩⟩
def An.av (a : An) : AV := .osl a.ko a.ver 0 a.xs.length
def AnsL (H : Heap) : Nat → List An → Nat → Prop
  | lo, [], hi => lo ≤ hi
  | lo, a :: as, hi => ∃ mid, OwnA H lo mid a.ko a.ver a.xs ∧ AnsL H mid as hi
theorem AnsL.le {H : Heap} : ∀ {as : List An} {lo hi : Nat}, AnsL H lo as hi → lo ≤ hi
  | [], _, _, h => h
  | a :: as, lo, hi, ⟨mid, h1, h2⟩ => by have := AnsL.le h2; have := h1.ge; have := h1.lt; omega
theorem AnsL.mono {H H' : Heap} : ∀ {as : List An} {lo hi : Nat}, AnsL H lo as hi → (∀ k, lo ≤ k → k < hi → H' k = H k) → AnsL H' lo as hi
  | [], _, _, h, _ => h
  | a :: as, lo, hi, ⟨mid, h1, h2⟩, hH => ⟨mid, h1.mono (fun k h3 h4 => hH k h3 (by have := AnsL.le h2; omega)) (Nat.le_refl _), AnsL.mono h2 fun k h3 h4 => hH k (by have := h1.ge; have := h1.lt; omega) h4⟩
theorem OwnA.frz0 {H : Heap} {lo hi ko ver : Nat} {xs : List LEnt} (h : OwnA H lo hi ko ver xs) : FrzL H 0 [.osl ko ver 0 xs.length] [entsAV (xs.map (·.e))] := .cons (h.frz (Nat.zero_le _)) .nil
theorem OwnA.ll {H : Heap} {lo hi n ko ver : Nat} {xs : List LEnt} (h : OwnA H lo hi ko ver xs) (hn : hi ≤ n) : LList H n ⟨ko, ver, xs.map lentAV⟩ xs :=
  ⟨Nat.lt_of_lt_of_le h.lt hn, h.at', by simp, by show (xs.map lentAV).take xs.length = _; rw [List.take_of_length_le (by simp)], fun x hx => (h.mine.ok x hx).mono (fun _ _ => rfl) hn⟩
/-- the book's first owners -/
def tg5 (n : Nat) : Nat → Tg := fun k => if k = n + 1 then .sys 0 else if k = n + 2 then .sys 1 else if k = n + 3 then .sys 2 else if k = n + 4 then .sys 3 else if k = n + 5 then .sys 4 else .free
theorem Bk.init {G : Heap} {n n' : Nat} (h2 : G (n + 2) = some (.arr 0 1 [])) (h3 : G (n + 3) = some (.arr 0 1 [])) (h4 : G (n + 4) = some (.arr 0 1 [])) (h5 : G (n + 5) = some (.arr 0 1 [])) (hn : n + 6 ≤ n') :
    Bk G n' (tg5 n) ⟨n + 1, n + 2, n + 3, n + 4, n + 5, 0, 0, 0, 0⟩ [] 0 0 [] 0 0 where
  lE := h2
  lG := h3
  lB := h4
  lH := h5
  tb := by simp [tg5]
  tE := by simp [tg5]
  tG := by simp [tg5]
  tB := by simp [tg5]
  tH := by simp [tg5]
  lt := fun k hk => by
    by_cases h : k < n'
    · exact h
    · exfalso; apply hk; unfold tg5
      rw [if_neg (by omega), if_neg (by omega), if_neg (by omega), if_neg (by omega), if_neg (by omega)]
  ma := Nat.le_refl _
  ab := Nat.le_refl _
  pc := Nat.le_refl _
  ce := Nat.le_refl _
  okb := fun i hi => by simp at hi
  oke := fun i hi => by simp at hi
  lb := fun s hs => by cases hs
  le := fun s hs => by cases hs
  nb := by simp
  ne := by simp
theorem tg5_free {n k : Nat} (h : k ≤ n ∨ n + 6 ≤ k) : tg5 n k = .free := by
  unfold tg5
  rw [if_neg (by omega), if_neg (by omega), if_neg (by omega), if_neg (by omega), if_neg (by omega)]
theorem tgAns_free {tg : Nat → Tg} {nb ne ko : Nat} {ks : List Nat} {k : Nat} (h1 : k ≠ ko) (h2 : k ∉ ks) : tgAns tg nb ne ko ks k = tg k := by unfold tgAns; rw [if_neg h1, if_neg h2]
/-- of keys outside an answer's own range nothing is said anew -/
theorem OwnA.out {H : Heap} {lo hi ko ver : Nat} {xs : List LEnt} (h : OwnA H lo hi ko ver xs) (tg : Nat → Tg) (nb ne : Nat) {k : Nat} (hk : k < lo ∨ hi ≤ k) : tgAns tg nb ne ko (xs.flatMap LEnt.ks) k = tg k :=
  tgAns_free (by have := h.ge; have := h.lt; omega) (fun hin => by have := h.mine.in' hin; omega)
end Go.Rt
