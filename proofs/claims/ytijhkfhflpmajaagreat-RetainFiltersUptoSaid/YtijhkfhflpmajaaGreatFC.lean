/- Own layer: the entries and schemas of the store as plain data, and as abstract values. Of every program; no condition. -/
import Derived.Test.YtijhkfhflpmajaaGreatFB
import Derived.Lib.Bytealg
set_option linter.unusedSimpArgs false
set_option linter.unusedVariables false
namespace Go.Rt
open Go Go.Sx
structure Ent where
  row : List UInt8
  fam : Int
  qual : List UInt8
  ts : Int
  seq : Int
  kind : Int
  value : List UInt8
  deriving DecidableEq, Inhabited
structure Fml where
  name : List UInt8
  max : Int
  ttl : Int
  deriving DecidableEq, Inhabited
def bys (b : List UInt8) : AV := .sl 1 (b.map byteAV)
def i64 (n : Int) : AV := .int .i64 n
def entAV (e : Ent) : AV := .agg [bys e.row, .int .i64 e.fam, bys e.qual, .int .i64 e.ts, .int .i64 e.seq, .int .i64 e.kind, bys e.value]
def entsAV (l : List Ent) : AV := .sl 7 (l.map entAV)
def famAV (f : Fml) : AV := .agg [.str f.name, .int .i64 f.max, .int .i64 f.ttl]
def schAV (s : List Fml) : AV := .agg [.sl 3 (s.map famAV)]
theorem bys_isByte (b : List UInt8) : ∀ x ∈ b.map byteAV, isByte x := fun x hx => by
  obtain ⟨y, _, rfl⟩ := List.mem_map.1 hx
  simp only [byteAV, isByte]
  have := y.toNat_lt
  omega
theorem byteOf_byteAV (b : UInt8) : byteOf' (byteAV b) = b := by simp [byteOf', byteAV]
theorem map_byteOf (b : List UInt8) : (b.map byteAV).map byteOf' = b := by
  rw [List.map_map]; conv => rhs; rw [← List.map_id b]
  exact List.map_congr_left fun x _ => byteOf_byteAV x
theorem entAV_sz (e : Ent) : (entAV e).sz = 7 := by simp [entAV, AV.sz, AV.szs, bys]
theorem famAV_sz (e : Fml) : (famAV e).sz = 3 := by simp [famAV, AV.sz, AV.szs]
theorem entAV_isAgg (e : Ent) : (entAV e).isAgg = true := rfl
theorem entAV_memOK (e : Ent) : (entAV e).memOK = true := rfl
theorem nth_map {α : Type} [Inhabited α] (f : α → AV) (l : List α) (i : Nat) (h : i < l.length) : nth (l.map f) i = f (l.getD i default) := by
  simp [nth, List.getD, List.getElem?_eq_getElem h]
def iv : AV → Nat
  | .int _ n => n.toNat
  | _ => 0
theorem iv_int (k : IntKind) (n : Int) : iv (.int k n) = n.toNat := rfl
theorem k2 (n : Nat) : n + 1 + 1 = n + 2 := rfl
theorem k3 (n : Nat) : n + 2 + 1 = n + 3 := rfl
theorem k4 (n : Nat) : n + 3 + 1 = n + 4 := rfl
theorem k5 (n : Nat) : n + 4 + 1 = n + 5 := rfl
theorem k6 (n : Nat) : n + 5 + 1 = n + 6 := rfl
theorem k7 (n : Nat) : n + 6 + 1 = n + 7 := rfl
theorem k8 (n : Nat) : n + 7 + 1 = n + 8 := rfl
theorem k9 (n : Nat) : n + 8 + 1 = n + 9 := rfl
theorem k10 (n : Nat) : n + 9 + 1 = n + 10 := rfl
theorem k11 (n : Nat) : n + 10 + 1 = n + 11 := rfl
theorem k12 (n : Nat) : n + 11 + 1 = n + 12 := rfl
theorem k13 (n : Nat) : n + 12 + 1 = n + 13 := rfl
theorem k14 (n : Nat) : n + 13 + 1 = n + 14 := rfl
theorem k15 (n : Nat) : n + 14 + 1 = n + 15 := rfl
theorem k16 (n : Nat) : n + 15 + 1 = n + 16 := rfl
theorem k17 (n : Nat) : n + 16 + 1 = n + 17 := rfl
theorem k18 (n : Nat) : n + 17 + 1 = n + 18 := rfl
theorem k19 (n : Nat) : n + 18 + 1 = n + 19 := rfl
theorem k20 (n : Nat) : n + 19 + 1 = n + 20 := rfl
theorem k21 (n : Nat) : n + 20 + 1 = n + 21 := rfl
theorem k22 (n : Nat) : n + 21 + 1 = n + 22 := rfl
theorem k23 (n : Nat) : n + 22 + 1 = n + 23 := rfl
theorem k24 (n : Nat) : n + 23 + 1 = n + 24 := rfl
theorem kne0 (n k : Nat) : (n = n + (k + 1)) = False := by simp
theorem kne1 (n k : Nat) : (n + (k + 1) = n) = False := by simp
theorem put2 (H : Heap) (k : Nat) (a b : Option AObj) : (H.put k a).put k b = H.put k b := by funext j; simp only [Heap.put]; split <;> rfl
theorem nlt1 (n k : Nat) : (n + k < n) = False := by simp
theorem wBS_own (P : Program) (z : TypeId → AV) (H : Heap) (n : Nat) (T : Nat → AV) (t : TypeId) (len : Nat) (ps : List (Nat × Operand)) : wBS P z H n T t len ps.toArray (.bool true) = wBSl P H n t len (ps.map (·.1)) (ps.map fun p => evO T p.2) := rfl
theorem wBS_ro (P : Program) (z : TypeId → AV) (H : Heap) (n : Nat) (T : Nat → AV) (t : TypeId) (len : Nat) (ps : Array (Nat × Operand)) : wBS P z H n T t len ps .junk = (opQ P z H true T (.buildSlice t len ps)).map fun r => (r.1, r.2, H, n) := rfl
attribute [go_sem] wBS_own wBS_ro Option.map_some Option.map_none
attribute [go_sem] k2 k3 k4 k5 k6 k7 k8 k9 k10 k11 k12 k13 k14 k15 k16 k17 k18 k19 k20 k21 k22 k23 k24 kne0 kne1 List.nil_append List.cons_append List.take_succ_cons List.take_zero List.set_cons_zero List.set_cons_succ Nat.zero_add Nat.add_zero Nat.zero_mul Nat.one_mul Nat.mul_one ne_eq not_false_eq_true AV.memOK.eq_5 put2 nlt1
attribute [go_sem] entAV bys famAV schAV entsAV byteAV iv_int
end Go.Rt
namespace Go.Rt
open Go Go.Sx
theorem w64 {n : Int} (h : -9223372036854775808 ≤ n) (h' : n < 9223372036854775808) : IntKind.i64.wrap n = n := by
  rw [IntKind.wrap_i64]; omega
theorem drop_cons {α : Type} [Inhabited α] (l : List α) (i : Nat) (h : i < l.length) : l.drop i = l.getD i default :: l.drop (i + 1) := by
  rw [List.drop_eq_getElem_cons h]; simp [List.getD, List.getElem?_eq_getElem h]
theorem Frz.eq {H : Heap} {n : Nat} {a b : AV} (h : a = b) (hk : a.kl n) : Frz H n a b := h ▸ .kl hk
def bout (x lo hi : Int) : Bool := decide (x < lo) || decide (hi < x)
def badQ (e : Ent) : Bool := bif decide (256 < (e.qual.length : Int)) then true else bif e.kind == 5 then decide (0 < (e.qual.length : Int)) else false
def badV (e : Ent) : Bool := bif decide (4096 < (e.value.length : Int)) then true else bif e.kind != 1 then decide (0 < (e.value.length : Int)) else false
def checkE (e : Ent) : Int :=
  if bout e.row.length 1 256 then 20
  else if bout e.fam 0 7 then 21
  else if badQ e then 22
  else if bout e.ts 1 1099511627776 then 23
  else if bout e.seq 0 17592186044431 then 24
  else if bout e.kind 1 5 then 25
  else if badV e then 26
  else 0
def checkedE (s : List Fml) (e : Ent) : Int := if checkE e ≠ 0 then checkE e else if (s.length : Int) ≤ e.fam then 21 else 0
def letterB (b : UInt8) : Bool := decide (97 ≤ (b.toNat : Int)) && decide ((b.toNat : Int) ≤ 122)
def nameB (b : UInt8) : Bool := !(bif (bif !letterB b then (bif decide ((b.toNat : Int) < 48) then true else decide (57 < (b.toNat : Int))) else false) then ((b.toNat : Int) != 95) else false)
def namedB (s : List UInt8) : Bool := !(bout s.length 1 32) && letterB (s.getD 0 0) && s.all nameB
def famIx : List Fml → List UInt8 → Nat → Int
  | [], _, _ => -1
  | f :: l, name, i => if f.name = name then i else famIx l name (i + 1)
def famBad (all : List Fml) (f : Fml) (i : Nat) : Bool := !(namedB f.name) || famIx all f.name 0 != (i : Int) || bout f.max 1 16 || bout f.ttl 0 1099511627776
def famsBad (all : List Fml) : List Fml → Nat → Bool
  | [], _ => false
  | f :: l, i => famBad all f i || famsBad all l (i + 1)
def schemaE (s : List Fml) : Int := if bout s.length 1 8 then 28 else if famsBad s s 0 then 28 else 0
theorem w1 {i : Nat} (h : i < 4611686018427387904) : IntKind.i64.wrap ((i : Int) + 1) = ((i + 1 : Nat) : Int) := by
  rw [w64 (by omega) (by omega)]; omega
theorem bout_false {x lo hi : Int} (h : bout x lo hi = false) : lo ≤ x ∧ x ≤ hi := by simp [bout] at h; omega
end Go.Rt
namespace Go.Rt
open Go Go.Sx
def sameE (a b : Ent) : Bool := decide (a = b)
def sameFamE (a b : Ent) : Bool := a.fam == b.fam && a.row == b.row
def sameColE (a b : Ent) : Bool := sameFamE a b && (a.kind != 5) && (b.kind != 5) && a.qual == b.qual
def Ent.fits (e : Ent) : Prop := e.row.length ≤ 140737488355328 ∧ e.qual.length ≤ 140737488355328 ∧ e.value.length ≤ 140737488355328
def cmpI (x y : Int) : Int := if x < y then -1 else if y < x then 1 else 0
def firstI (kk : Int) (a b : Ent) : Int := if a.kind = kk then (if b.kind = kk then 0 else -1) else (if b.kind = kk then 1 else 0)
def stepE (i : Nat) (a b : Ent) : Int :=
  match i with
  | 0 => Lib.compareBytes a.row b.row
  | 1 => cmpI a.fam b.fam
  | 2 => firstI 5 a b
  | 3 => Lib.compareBytes a.qual b.qual
  | 4 => firstI 4 a b
  | 5 => cmpI b.ts a.ts
  | 6 => cmpI b.seq a.seq
  | 7 => cmpI a.kind b.kind
  | _ => 0
def compFrom (a b : Ent) : Nat → Int
  | 0 => 0
  | k + 1 => if stepE (7 - k) a b ≠ 0 then stepE (7 - k) a b else compFrom a b k
def compE (a b : Ent) : Int := compFrom a b 8
theorem sameE_eq (a b : Ent) : sameE a b = (a.fam == b.fam && a.ts == b.ts && a.seq == b.seq && a.kind == b.kind && a.row == b.row && a.qual == b.qual && a.value == b.value) := by
  unfold sameE
  rw [Bool.eq_iff_iff]
  simp only [decide_eq_true_eq, Bool.and_eq_true, beq_iff_eq]
  constructor
  · rintro rfl; simp
  · rintro ⟨⟨⟨⟨⟨⟨h1, h2⟩, h3⟩, h4⟩, h5⟩, h6⟩, h7⟩
    cases a; cases b; simp_all
end Go.Rt
namespace Go.Rt
open Go Go.Sx
theorem kls_bytes (b : List UInt8) (n : Nat) : AV.kls n (b.map byteAV) := by
  rw [AV.kls_iff]; intro x hx
  obtain ⟨y, _, rfl⟩ := List.mem_map.1 hx
  trivial
theorem kl_bys (b : List UInt8) (n : Nat) : (bys b).kl n := kls_bytes b n
theorem kl_ent (e : Ent) (n : Nat) : (entAV e).kl n := ⟨kl_bys _ _, trivial, kl_bys _ _, trivial, trivial, trivial, kl_bys _ _, trivial⟩
theorem kls_ents (l : List Ent) (n : Nat) : AV.kls n (l.map entAV) := by
  rw [AV.kls_iff]; intro x hx
  obtain ⟨y, _, rfl⟩ := List.mem_map.1 hx
  exact kl_ent y n
theorem kls_fams (l : List Fml) (n : Nat) : AV.kls n (l.map famAV) := by
  rw [AV.kls_iff]; intro x hx
  obtain ⟨y, _, rfl⟩ := List.mem_map.1 hx
  exact ⟨trivial, trivial, trivial, trivial⟩
theorem kl_sch (l : List Fml) (n : Nat) : (schAV l).kl n := ⟨kls_fams l n, trivial⟩
theorem relF_bytes {c : Ctx} : ∀ (b : List UInt8) (ds : List Value), RelF c (b.map byteAV) ds → ds = b.map fun x => .int .u8 x.toNat
  | [], ds, h => by simpa [RelF] using h
  | x :: b, ds, h => by
    simp only [List.map_cons, RelF] at h
    obtain ⟨c1, c2, e, h1, h2⟩ := h
    simp only [byteAV, Rel] at h1
    rw [e, h1, relF_bytes b c2 h2]; rfl
theorem run_bytesOf_bys {P : Program} {c : Ctx} {H : Heap} {n : Nat} {w : World} (hs : Sim c H n w) {b : List UInt8} {v : Value} (h : Rel c (bys b) false [v]) : (Extern.Bytes.bytesOf v).run P w = .ok ⟨b.toArray⟩ w := by
  simp only [bys, Rel, List.cons.injEq, and_true] at h
  obtain ⟨a, cap, rfl, _, _, hx⟩ := h
  rcases hx with hx | ⟨bb, off, arr, ds, rfl, hb, hr, ha⟩
  · have hb : b = [] := by simpa using hx
    subst hb
    cases a <;> rfl
  · obtain ⟨ty, fr, hw⟩ := hs.ro bb arr hb
    have hds := relF_bytes b ds hr
    subst hds
    have := Lib.run_loadBytesX (P := P) w (b.map fun x => (x.toNat : Int)) ⟨bb, off, none⟩ .empty (fun j x hj => by
      rw [Addr.add_plain]; simp only [World.cell?, hw]
      have := ha j (.int .u8 x) (by simp at hj ⊢; obtain ⟨y, hy, e⟩ := hj; exact ⟨y, hy, e⟩)
      simpa using this)
    simp only [List.length_map] at this ⊢
    show (Extern.Bytes.loadBytes ⟨bb, off, none⟩ b.length .empty).run P w = _
    rw [this]
    congr 1
    apply ByteArray.ext
    show (#[] : Array UInt8) ++ (Lib.bytesOf (b.map fun x => (x.toNat : Int))).toArray = b.toArray
    simp [Lib.bytesOf, List.map_map, Function.comp_def]
theorem ext_bytesCompare {P : Program} {f : FuncId} {fn : Func} {H : Heap} {n : Nat} {k : AV → Heap → Nat → Prop} (hf : P.funcs[f]? = some fn) (hb : fn.body = none) (hn : (fn.name == "runtime.NumGoroutine") = false)
    (h1 : (Extern.findNext fn).isNone = true) (h2 : Extern.find fn = some Extern.BytealgCompare.compare) (a b : List UInt8) (hk : k (.int .i64 (Lib.compareBytes a b)) H n) : ExtC P f [bys a, bys b] H n k := fun c w vs hs hr => by
  simp only [RelT] at hr
  obtain ⟨v1, _, rfl, hr1, v2, _, rfl, hr2, rfl⟩ := hr
  have h1' : Extern.findNext fn = none := by simpa using h1
  refine ⟨_, .int .i64 (Lib.compareBytes a b), c, H, n, w, ?_, .refl hs, by simp [Rel], hk⟩
  have hc : (Extern.BytealgCompare.compare #[v1, v2]).run P w = .ok (.int .i64 (Lib.compareBytes a b)) w := by
    change Sem.run P (do pure (goInt (Extern.BytealgCompare.cmp (← Extern.Bytes.bytesOf v1) (← Extern.Bytes.bytesOf v2)))) w = _
    simp only [Sem.run_bind, run_bytesOf_bys hs hr1, run_bytesOf_bys hs hr2, Result.andThen_ok, Sem.run_pure]
    rw [Lib.cmp_eq]
    rfl
  have hn' : ¬ fn.name = "runtime.NumGoroutine" := by simpa using hn
  simp [callFunc, hf, hn', hb, h1', h2, hc]
end Go.Rt
namespace Go.Rt
open Go Go.Sx
theorem famsBad_cons (all l : List Fml) (f : Fml) (i : Nat) : famsBad all (f :: l) i = (famBad all f i || famsBad all l (i + 1)) := rfl
def timesBad (l : List Int) : Bool := l.any fun t => bout t 0 1099511627776
def boundsE (s : List Fml) (clock : Int) (times : List Int) (k : Int) : Int :=
  if schemaE s ≠ 0 then schemaE s else if timesBad (clock :: times) then 32 else if bout k 1 16 then 32 else 0
def intsAV (l : List Int) : AV := .sl 1 (l.map fun x => .int .i64 x)
attribute [go_sem] intsAV
end Go.Rt
namespace Go.Sx
variable {α : Type}
def atL [Inhabited α] (l : List α) (i : Nat) : α := l.getD i default
def swapL [Inhabited α] (l : List α) (i j : Nat) : List α := (l.set i (atL l j)).set j (atL l i)
def swapN [Inhabited α] (l : List α) (p q : Nat → Nat) : Nat → List α
  | 0 => l
  | n + 1 => swapL (swapN l p q n) (p n) (q n)
theorem swapL_length [Inhabited α] (l : List α) (i j : Nat) : (swapL l i j).length = l.length := by simp [swapL]
theorem swapN_length [Inhabited α] (l : List α) (p q : Nat → Nat) (n : Nat) : (swapN l p q n).length = l.length := by
  induction n with
  | zero => rfl
  | succ n ih => simp [swapN, swapL_length, ih]
theorem atL_pre [Inhabited α] (p : List α) (x : α) (s : List α) : atL (p ++ x :: s) p.length = x := by
  simp [atL, List.getD]
theorem atL_of [Inhabited α] {l p s : List α} {x : α} {i : Nat} (h : l = p ++ x :: s) (hi : i = p.length) : atL l i = x := by subst h hi; exact atL_pre p x s
theorem swapL_mid [Inhabited α] (p : List α) (x : α) (q : List α) (y : α) (s : List α) :
    swapL (p ++ x :: (q ++ y :: s)) p.length (p.length + 1 + q.length) = p ++ y :: (q ++ x :: s) := by
  have h1 : atL (p ++ x :: (q ++ y :: s)) (p.length + 1 + q.length) = y :=
    atL_of (p := p ++ x :: q) (s := s) (by simp) (by simp; omega)
  have e1 : p.length + 1 + q.length - p.length = q.length + 1 := by omega
  have e2 : q.length - q.length = 0 := by omega
  rw [swapL, atL_pre, h1, List.set_append_right _ _ (Nat.le_refl _), Nat.sub_self, List.set_cons_zero, List.set_append_right _ _ (by omega), e1, List.set_cons_succ, List.set_append_right _ _ (Nat.le_refl _), e2, List.set_cons_zero]
theorem swapL_down [Inhabited α] (p : List α) (x : α) (q : List α) (y : α) (s : List α) :
    swapL (p ++ x :: (q ++ y :: s)) (p.length + 1 + q.length) p.length = p ++ y :: (q ++ x :: s) := by
  have h1 : atL (p ++ x :: (q ++ y :: s)) (p.length + 1 + q.length) = y :=
    atL_of (p := p ++ x :: q) (s := s) (by simp) (by simp; omega)
  have e1 : p.length + 1 + q.length - p.length = q.length + 1 := by omega
  have e2 : q.length - q.length = 0 := by omega
  rw [swapL, atL_pre, h1, List.set_append_right _ _ (by omega : p.length ≤ p.length + 1 + q.length), e1, List.set_cons_succ, List.set_append_right _ _ (Nat.le_refl _), List.set_append_right _ _ (Nat.le_refl _), Nat.sub_self, Nat.sub_self, List.set_cons_zero, List.set_cons_zero]
theorem concat_of {l : List α} {n : Nat} (h : l.length = n + 1) : ∃ c y, l = c ++ [y] ∧ c.length = n := by
  rcases List.eq_nil_or_concat l with h0 | ⟨c, y, rfl⟩
  · subst h0; simp at h
  · exact ⟨c, y, by simp, by simpa using h⟩
theorem swapN_up [Inhabited α] (p : List α) (x : α) : ∀ (n : Nat) (B s : List α), B.length = n →
    swapN (p ++ x :: (B ++ s)) (fun i => p.length + i) (fun i => p.length + i + 1) n = p ++ (B ++ x :: s) := by
  intro n
  induction n with
  | zero => intro B s h; have : B = [] := List.length_eq_zero_iff.1 h; subst this; simp [swapN]
  | succ n ih =>
    intro B s h
    obtain ⟨c, y, rfl, hc⟩ := concat_of h
    have h2 := ih c (y :: s) hc
    rw [swapN]
    have e : (p ++ x :: (c ++ [y] ++ s)) = p ++ x :: (c ++ y :: s) := by simp
    rw [e, h2]
    have := swapL_mid (p ++ c) x [] y s
    simp only [List.length_append, List.length_nil, Nat.add_zero, List.nil_append, List.append_assoc, hc] at this
    rw [this]
    simp
theorem swapN_down [Inhabited α] (p : List α) (x : α) : ∀ (n : Nat) (B s : List α), B.length = n →
    swapN (p ++ (B ++ x :: s)) (fun i => p.length + n - i) (fun i => p.length + n - i - 1) n = p ++ x :: (B ++ s) := by
  suffices h : ∀ (n k : Nat) (C B s : List α), B.length = k → C.length = n →
      swapN (p ++ (C ++ B ++ x :: s)) (fun i => p.length + (n + k) - i) (fun i => p.length + (n + k) - i - 1) k = p ++ (C ++ x :: (B ++ s)) by
    intro n B s hB
    have := h 0 n [] B s hB rfl
    simpa using this
  intro n k
  induction k generalizing n with
  | zero => intro C B s h hc; have : B = [] := List.length_eq_zero_iff.1 h; subst this; simp [swapN]
  | succ k ih =>
    intro C B s h hc
    cases B with
    | nil => simp at h
    | cons y B =>
      have h2 := ih (n + 1) (C ++ [y]) B s (by simpa using h) (by simp [hc])
      have e1 : n + 1 + k = n + (k + 1) := by omega
      rw [e1] at h2
      rw [swapN]
      have e : (p ++ (C ++ y :: B ++ x :: s)) = p ++ (C ++ [y] ++ B ++ x :: s) := by simp
      rw [e, h2]
      have := swapL_down (p ++ C) y [] x (B ++ s)
      simp only [List.length_append, List.length_nil, Nat.add_zero, List.nil_append, List.append_assoc, hc] at this
      have e3 : p.length + (n + (k + 1)) - k = p.length + n + 1 := by omega
      have e4 : p.length + (n + (k + 1)) - k - 1 = p.length + n := by omega
      rw [e4, e3]
      simp only [List.append_assoc, List.cons_append, List.nil_append] at this ⊢
      rw [this]
theorem swapN_range [Inhabited α] (p : List α) : ∀ (n : Nat) (X m Y s : List α), X.length = n → Y.length = n →
    swapN (p ++ (X ++ (m ++ (Y ++ s)))) (fun i => p.length + i) (fun i => p.length + n + m.length + i) n = p ++ (Y ++ (m ++ (X ++ s))) := by
  suffices h : ∀ (n : Nat) (b : Nat) (X m Y s : List α), X.length = n → Y.length = n → b = p.length + n + m.length →
    swapN (p ++ (X ++ (m ++ (Y ++ s)))) (fun i => p.length + i) (fun i => b + i) n = p ++ (Y ++ (m ++ (X ++ s))) by
    intro n X m Y s hx hy; exact h n _ X m Y s hx hy rfl
  intro n
  induction n with
  | zero =>
    intro b X m Y s hx hy _
    have : X = [] := List.length_eq_zero_iff.1 hx
    have : Y = [] := List.length_eq_zero_iff.1 hy
    subst_vars; simp [swapN]
  | succ n ih =>
    intro b X m Y s hx hy hb
    obtain ⟨c, x, rfl, hc⟩ := concat_of hx
    obtain ⟨d, y, rfl, hd⟩ := concat_of hy
    have h2 := ih b c (x :: m) d (y :: s) hc hd (by simp; omega)
    rw [swapN]
    have e : (p ++ (c ++ [x] ++ (m ++ (d ++ [y] ++ s)))) = p ++ (c ++ (x :: m ++ (d ++ y :: s))) := by simp
    rw [e, h2]
    have := swapL_mid (p ++ d) x (m ++ c) y s
    have e4 : (p ++ d).length = p.length + n := by simp [hd]
    have e5 : (p ++ d).length + 1 + (m ++ c).length = b + n := by simp [hd, hc]; omega
    rw [e5, e4] at this
    simp only [List.append_assoc, List.cons_append, List.nil_append] at this ⊢
    rw [this]
def bsL (f : Nat → Bool) (i j : Nat) : Nat := if h : i < j then (if f ((i + j) / 2) then bsL f ((i + j) / 2 + 1) j else bsL f i ((i + j) / 2)) else i
termination_by j - i
decreasing_by all_goals omega
theorem bsL_step (f : Nat → Bool) {i j : Nat} (h : i < j) : bsL f i j = if f ((i + j) / 2) then bsL f ((i + j) / 2 + 1) j else bsL f i ((i + j) / 2) := by
  rw [bsL, dif_pos h]
theorem bsL_done (f : Nat → Bool) {i j : Nat} (h : ¬ i < j) : bsL f i j = i := by rw [bsL, dif_neg h]
theorem bsL_spec (f : Nat → Bool) : ∀ (k i j : Nat), j - i ≤ k → i ≤ j →
    i ≤ bsL f i j ∧ bsL f i j ≤ j ∧ (i < bsL f i j → f (bsL f i j - 1) = true) ∧ (bsL f i j < j → f (bsL f i j) = false) := by
  intro k
  induction k with
  | zero => intro i j h1 h2; rw [bsL_done f (by omega)]; refine ⟨Nat.le_refl _, h2, fun h => absurd h (by omega), fun h => absurd h (by omega)⟩
  | succ k ih =>
    intro i j h1 h2
    by_cases hij : i < j
    · rw [bsL_step f hij]
      cases hf : f ((i + j) / 2) with
      | true =>
        simp only [if_true]
        obtain ⟨a, b, c, d⟩ := ih ((i + j) / 2 + 1) j (by omega) (by omega)
        refine ⟨by omega, b, fun h => ?_, d⟩
        by_cases e : (i + j) / 2 + 1 < bsL f ((i + j) / 2 + 1) j
        · exact c e
        · have : bsL f ((i + j) / 2 + 1) j - 1 = (i + j) / 2 := by omega
          rw [this]; exact hf
      | false =>
        simp only [Bool.false_eq_true, if_false]
        obtain ⟨a, b, c, d⟩ := ih i ((i + j) / 2) (by omega) (by omega)
        refine ⟨a, by omega, c, fun h => ?_⟩
        by_cases e : bsL f i ((i + j) / 2) < (i + j) / 2
        · exact d e
        · have : bsL f i ((i + j) / 2) = (i + j) / 2 := by omega
          rw [this]; exact hf
    · rw [bsL_done f hij]; refine ⟨Nat.le_refl _, h2, fun h => absurd h (by omega), fun h => absurd h (by omega)⟩
def rotL [Inhabited α] : Nat → List α → Nat → Nat → Nat → List α
  | 0, l, _, _, _ => l
  | c + 1, l, m, i, j =>
    if i = j then swapN l (fun k => m - i + k) (fun k => m + k) i
    else if i > j then rotL c (swapN l (fun k => m - i + k) (fun k => m + k) j) m (i - j) j
    else rotL c (swapN l (fun k => m - i + k) (fun k => m + j - i + k) i) m i (j - i)
theorem rotL_length [Inhabited α] : ∀ (c : Nat) (l : List α) (m i j : Nat), (rotL c l m i j).length = l.length := by
  intro c
  induction c with
  | zero => intros; rfl
  | succ c ih =>
    intro l m i j; rw [rotL]; repeat' split
    all_goals simp [swapN_length, ih]
theorem split_at {l : List α} {n k : Nat} (h : l.length = n) (hk : k ≤ n) : ∃ a b, l = a ++ b ∧ a.length = k ∧ b.length = n - k :=
  ⟨l.take k, l.drop k, (List.take_append_drop k l).symm, by simp; omega, by simp; omega⟩
theorem rotL_ok [Inhabited α] : ∀ (c : Nat) (p A B s : List α) (m : Nat), A.length + B.length ≤ c → 0 < A.length → 0 < B.length → m = p.length + A.length →
    rotL c (p ++ (A ++ (B ++ s))) m A.length B.length = p ++ (B ++ (A ++ s)) := by
  intro c
  induction c with
  | zero => intro p A B s m h h1 _ _; omega
  | succ c ih =>
    intro p A B s m h h1 h2 hm
    rw [rotL]
    split
    · rename_i he
      have := swapN_range p A.length A [] B s rfl he.symm
      simp only [List.nil_append, List.length_nil, Nat.add_zero] at this
      have e : m - A.length = p.length := by omega
      rw [e, hm]; exact this
    · rename_i hne
      split
      · rename_i hgt
        obtain ⟨A1, A2, rfl, hA1, hA2⟩ := split_at (l := A) (k := B.length) rfl (by omega)
        have := swapN_range p B.length A1 A2 B s hA1 rfl
        have e : m - (A1 ++ A2).length = p.length := by omega
        rw [e]
        have e2 : p.length + B.length + A2.length = m := by simp [hA1] at hm; omega
        rw [e2] at this
        simp only [List.append_assoc] at this ⊢
        rw [this]
        have h3 := ih (p ++ B) A2 A1 s m (by simp at h; omega) (by omega) (by omega) (by simp at hm ⊢; omega)
        simp only [List.append_assoc] at h3
        have e6 : (A1 ++ A2).length - B.length = A2.length := by simp; omega
        rw [e6, ← hA1, h3]
      · rename_i hlt
        obtain ⟨B1, B2, hB, hB1, hB2⟩ := split_at (l := B) (k := B.length - A.length) rfl (by omega)
        have hB3 : B2.length = A.length := by omega
        have := swapN_range p A.length A B1 B2 s rfl hB3
        have e : m - A.length = p.length := by omega
        have e2 : p.length + A.length + B1.length = m + B.length - A.length := by omega
        rw [e2] at this
        have h3 := ih p B2 B1 (A ++ s) m (by omega) (by omega) (by omega) (by omega)
        rw [e, ← hB1, ← hB3]
        rw [hB3, hB, List.append_assoc]
        rw [hB] at this
        rw [this, ← hB3, h3, List.append_assoc]
def insL [Inhabited α] (lt : α → α → Bool) (l : List α) (a : Nat) : Nat → List α
  | 0 => l
  | j + 1 => if a < j + 1 ∧ lt (atL l (j + 1)) (atL l j) = true then insL lt (swapL l (j + 1) j) a j else l
theorem insL_length [Inhabited α] (lt : α → α → Bool) (a : Nat) : ∀ (j : Nat) (l : List α), (insL lt l a j).length = l.length := by
  intro j
  induction j with
  | zero => intros; rfl
  | succ j ih => intro l; rw [insL]; split <;> simp [ih, swapL_length]
def insN [Inhabited α] (lt : α → α → Bool) (l : List α) (a : Nat) : Nat → List α
  | 0 => l
  | k + 1 => insL lt (insN lt l a k) a (a + 1 + k)
theorem insN_length [Inhabited α] (lt : α → α → Bool) (a k : Nat) (l : List α) : (insN lt l a k).length = l.length := by
  induction k with
  | zero => rfl
  | succ k ih => simp [insN, insL_length, ih]
def symL [Inhabited α] (lt : α → α → Bool) : Nat → List α → Nat → Nat → Nat → List α
  | 0, l, _, _, _ => l
  | c + 1, l, a, m, b =>
    if m - a = 1 then swapN l (fun i => a + i) (fun i => a + i + 1) (bsL (fun h => lt (atL l h) (atL l a)) m b - 1 - a)
    else if b - m = 1 then swapN l (fun i => m - i) (fun i => m - i - 1) (m - bsL (fun h => !lt (atL l m) (atL l h)) a m)
    else
      let mid := (a + b) / 2
      let n := mid + m
      let st := bsL (fun c => !lt (atL l (n - 1 - c)) (atL l c)) (if m > mid then n - b else a) (if m > mid then mid else m)
      let en := n - st
      let l1 := if st < m ∧ m < en then rotL (en - st) l m (m - st) (en - m) else l
      let l2 := if a < st ∧ st < mid then symL lt c l1 a st mid else l1
      if mid < en ∧ en < b then symL lt c l2 mid en b else l2
theorem symL_length [Inhabited α] (lt : α → α → Bool) : ∀ (c : Nat) (l : List α) (a m b : Nat), (symL lt c l a m b).length = l.length := by
  intro c
  induction c with
  | zero => intros; rfl
  | succ c ih =>
    intro l a m b
    rw [symL]
    split
    · simp [swapN_length]
    · split
      · simp [swapN_length]
      · dsimp only
        repeat' split
        all_goals simp [ih, rotL_length]
structure Ord (lt : α → α → Bool) : Prop where
  tr : ∀ x y z, lt y x = false → lt z y = false → lt z x = false
  asym : ∀ x y, lt x y = true → lt y x = false
def Srt (lt : α → α → Bool) (l : List α) : Prop := l.Pairwise fun x y => lt y x = false
variable {lt : α → α → Bool}
theorem Srt.take {l : List α} (h : Srt lt l) (n : Nat) : Srt lt (l.take n) := List.Pairwise.sublist (List.take_sublist _ _) h
theorem Srt.drop {l : List α} (h : Srt lt l) (n : Nat) : Srt lt (l.drop n) := List.Pairwise.sublist (List.drop_sublist _ _) h
theorem Srt.left {a b : List α} (h : Srt lt (a ++ b)) : Srt lt a := (List.pairwise_append.1 h).1
theorem Srt.right {a b : List α} (h : Srt lt (a ++ b)) : Srt lt b := (List.pairwise_append.1 h).2.1
theorem Srt.across {a b : List α} (h : Srt lt (a ++ b)) : ∀ x ∈ a, ∀ y ∈ b, lt y x = false := (List.pairwise_append.1 h).2.2
theorem srt_of_across {a b : List α} (ha : Srt lt a) (hb : Srt lt b) (h : ∀ x ∈ a, ∀ y ∈ b, lt y x = false) : Srt lt (a ++ b) :=
  List.pairwise_append.2 ⟨ha, hb, h⟩
theorem across_of (O : Ord lt) {a b : List α} (ha : Srt lt a) (hb : Srt lt b)
    (h : ∀ a' x y b', a = a' ++ [x] → b = y :: b' → lt y x = false) : ∀ x ∈ a, ∀ y ∈ b, lt y x = false := by
  intro x hx y hy
  rcases List.eq_nil_or_concat a with h0 | ⟨a', z, rfl⟩
  · subst h0; cases hx
  · cases b with
    | nil => cases hy
    | cons w b' =>
      have hzw := h a' z w b' (by simp) rfl
      have h1 : x = z ∨ lt z x = false := by
        simp at hx
        rcases hx with hx | hx
        · right; simp at ha; exact ha.across x hx z (by simp)
        · exact .inl hx
      have h2 : y = w ∨ lt y w = false := by
        cases hy with
        | head => exact .inl rfl
        | tail _ hy => right; exact (List.pairwise_cons.1 hb).1 y hy
      have h3 : lt w x = false := by rcases h1 with rfl | h1; exact hzw; exact O.tr _ _ _ h1 hzw
      rcases h2 with rfl | h2; exact h3; exact O.tr _ _ _ h3 h2
theorem insL_ok [Inhabited α] (O : Ord lt) : ∀ (j : Nat) (p A : List α) (x : α) (s : List α), j = p.length + A.length → Srt lt A →
    ∃ A1 A2, A = A1 ++ A2 ∧ insL lt (p ++ (A ++ x :: s)) p.length j = p ++ (A1 ++ x :: (A2 ++ s)) ∧ (∀ y ∈ A2, lt x y = true) ∧ (∀ A' y, A1 = A' ++ [y] → lt x y = false) := by
  intro j
  induction j with
  | zero =>
    intro p A x s hj _
    have h1 : A = [] := List.length_eq_zero_iff.1 (by omega)
    subst h1
    exact ⟨[], [], rfl, by simp [insL], by simp, by simp⟩
  | succ j ih =>
    intro p A x s hj hA
    rcases List.eq_nil_or_concat A with h0 | ⟨A', y, hAe⟩
    · subst h0
      refine ⟨[], [], rfl, ?_, by simp, by simp⟩
      rw [insL, if_neg (by simp at hj; omega)]; simp
    · have hAe : A = A' ++ [y] := by simpa using hAe
      subst hAe
      have e1 : atL (p ++ (A' ++ [y] ++ x :: s)) (j + 1) = x := atL_of (p := p ++ A' ++ [y]) (s := s) (by simp) (by simp at hj ⊢; omega)
      have e2 : atL (p ++ (A' ++ [y] ++ x :: s)) j = y := atL_of (p := p ++ A') (s := x :: s) (by simp) (by simp at hj ⊢; omega)
      rw [insL, e1, e2]
      by_cases hlt : lt x y = true
      · rw [if_pos ⟨by simp at hj; omega, hlt⟩]
        have h3 := swapL_down (p ++ A') y [] x s
        have e4 : (p ++ A').length = j := by simp at hj ⊢; omega
        rw [e4] at h3
        simp only [List.length_nil, Nat.add_zero, List.nil_append, List.append_assoc, List.cons_append] at h3 ⊢
        rw [h3]
        obtain ⟨A1, A2, hs, he, hb, hc⟩ := ih p A' x (y :: s) (by simp at e4; omega) hA.left
        refine ⟨A1, A2 ++ [y], by simp [hs], by rw [he]; simp, ?_, hc⟩
        intro z hz
        simp at hz
        rcases hz with hz | rfl
        · exact hb z hz
        · exact hlt
      · rw [if_neg (by simp [hlt])]
        refine ⟨A' ++ [y], [], by simp, by simp, by simp, ?_⟩
        intro A2 z hz
        have := List.append_inj_right' hz rfl
        simp at this; subst this
        simpa using hlt
theorem insL_srt [Inhabited α] (O : Ord lt) (p A : List α) (x : α) (s : List α) (j : Nat) (hj : j = p.length + A.length) (hA : Srt lt A) :
    ∃ C, insL lt (p ++ (A ++ x :: s)) p.length j = p ++ (C ++ s) ∧ C.Perm (A ++ [x]) ∧ Srt lt C := by
  obtain ⟨A1, A2, rfl, he, hb, hc⟩ := insL_ok O j p A x s hj hA
  refine ⟨A1 ++ x :: A2, by rw [he]; simp, ?_, ?_⟩
  · rw [List.append_assoc]
    refine List.Perm.append_left _ ?_
    have := (List.perm_append_comm (l₁ := [x]) (l₂ := A2))
    simpa using this
  · refine srt_of_across hA.left (List.pairwise_cons.2 ⟨fun y hy => O.asym _ _ (hb y hy), hA.right⟩) ?_
    have h1 := across_of O (a := A1) (b := [x]) hA.left (by simp [Srt]) (fun a' z y b' h1 h2 => by
      simp at h2; obtain ⟨rfl, _⟩ := h2; exact hc a' z h1)
    intro z hz w hw
    rcases List.mem_cons.1 hw with rfl | hw
    · exact h1 z hz _ (by simp)
    · exact hA.across z hz w hw
theorem insN_ok [Inhabited α] (O : Ord lt) : ∀ (k : Nat) (p Y s : List α), Y.length = k + 1 →
    ∃ C, insN lt (p ++ (Y ++ s)) p.length k = p ++ (C ++ s) ∧ C.Perm Y ∧ Srt lt C := by
  intro k
  induction k with
  | zero =>
    intro p Y s h
    refine ⟨Y, rfl, List.Perm.refl _, ?_⟩
    match Y, h with
    | [y], _ => simp [Srt]
  | succ k ih =>
    intro p Y s h
    obtain ⟨c, y, rfl, hc⟩ := concat_of h
    obtain ⟨C, h1, h2, h3⟩ := ih p c (y :: s) hc
    have h4 := h2.length_eq
    obtain ⟨D, h5, h6, h7⟩ := insL_srt O p C y s (p.length + 1 + k) (by omega) h3
    refine ⟨D, ?_, h6.trans (h2.append_right _), h7⟩
    rw [insN]
    have e : p ++ (c ++ [y] ++ s) = p ++ (c ++ y :: s) := by simp
    rw [e, h1, h5]
theorem symL_ok [Inhabited α] (O : Ord lt) : ∀ (c : Nat) (p A B s : List α) (m b : Nat), m = p.length + A.length → b = m + B.length →
    A.length + B.length ≤ c → 0 < A.length → 0 < B.length → Srt lt A → Srt lt B →
    ∃ C, symL lt c (p ++ (A ++ (B ++ s))) p.length m b = p ++ (C ++ s) ∧ C.Perm (A ++ B) ∧ Srt lt C := by
  intro c
  induction c with
  | zero => intro p A B s m b _ _ h h1; omega
  | succ c ih =>
    intro p A B s m b hm hb hc hA0 hB0 hA hB
    rw [symL]
    by_cases c1 : m - p.length = 1
    · rw [if_pos c1]
      match A, hA, hA0, hm, hc, c1 with
      | [], _, h, _, _, _ => simp at h
      | _ :: _ :: _, _, _, hm, _, c1 => simp at hm; omega
      | [x], hA, hA0, hm, hc, c1 =>
      simp only [List.cons_append, List.nil_append, List.length_cons, List.length_nil] at hm ⊢
      have ex : atL (p ++ x :: (B ++ s)) p.length = x := atL_pre _ _ _
      rw [ex]
      obtain ⟨g1, g2, g3, g4⟩ := bsL_spec (fun h => lt (atL (p ++ x :: (B ++ s)) h) x) (b - m) m b (Nat.le_refl _) (by omega)
      generalize hi : bsL (fun h => lt (atL (p ++ x :: (B ++ s)) h) x) m b = i at *
      obtain ⟨B1, B2, rfl, hB1, hB2⟩ := split_at (l := B) (k := i - m) rfl (by omega)
      have h1 := swapN_up p x (i - 1 - p.length) B1 (B2 ++ s) (by omega)
      simp only [List.append_assoc] at h1 ⊢ ex g3 g4
      rw [h1]
      refine ⟨B1 ++ x :: B2, by simp, by simp, ?_⟩
      refine srt_of_across hB.left (List.pairwise_cons.2 ⟨?_, hB.right⟩) ?_
      · have h2 := across_of O (a := [x]) (b := B2) (by simp [Srt]) hB.right (fun a' z y b' e1 e2 => by
          have e1 : a' = [] ∧ z = x := by
            cases a' with
            | nil => simp at e1; exact ⟨rfl, e1.symm⟩
            | cons _ _ => simp at e1
          obtain ⟨rfl, rfl⟩ := e1
          subst e2
          have e3 := g4 (by simp at hB2 hb ⊢; omega)
          rwa [atL_of (p := p ++ z :: B1) (s := b' ++ s) (x := y) (by simp) (by simp; omega)] at e3)
        intro y hy
        exact h2 x (by simp) y hy
      · have h2 := across_of O (a := B1) (b := [x]) hB.left (by simp [Srt]) (fun a' z y b' e1 e2 => by
          simp at e2; obtain ⟨rfl, _⟩ := e2
          subst e1
          have e3 := g3 (by simp at hB1; omega)
          rw [atL_of (p := p ++ x :: a') (s := B2 ++ s) (x := z) (by simp) (by simp at hB1 ⊢; omega)] at e3
          exact O.asym _ _ e3)
        intro z hz w hw
        rcases List.mem_cons.1 hw with rfl | hw
        · exact h2 z hz _ (by simp)
        · exact hB.across z hz w hw
    · rw [if_neg c1]
      by_cases c2 : b - m = 1
      · rw [if_pos c2]
        match B, hB, hB0, hb, hc with
        | [], _, h, _, _ => simp at h
        | _ :: _ :: _, _, _, hb, _ => simp at hb; omega
        | [x], hB, hB0, hb, hc =>
        simp only [List.cons_append, List.nil_append, List.length_cons, List.length_nil] at hb ⊢
        have ex : atL (p ++ (A ++ x :: s)) m = x := atL_of (p := p ++ A) (s := s) (by simp) (by simp; omega)
        rw [ex]
        obtain ⟨g1, g2, g3, g4⟩ := bsL_spec (fun h => !lt x (atL (p ++ (A ++ x :: s)) h)) (m - p.length) p.length m (Nat.le_refl _) (by omega)
        generalize hi : bsL (fun h => !lt x (atL (p ++ (A ++ x :: s)) h)) p.length m = i at *
        obtain ⟨A1, A2, rfl, hA1, hA2⟩ := split_at (l := A) (k := i - p.length) rfl (by omega)
        have h1 := swapN_down (p ++ A1) x (m - i) A2 s (by omega)
        have e5 : (p ++ A1).length + (m - i) = m := by simp; omega
        rw [e5] at h1
        simp only [List.append_assoc] at h1 ⊢ ex g3 g4
        rw [h1]
        refine ⟨A1 ++ x :: A2, by simp, ?_, ?_⟩
        · refine List.Perm.append_left _ ?_
          have := (List.perm_append_comm (l₁ := [x]) (l₂ := A2))
          simpa using this
        refine srt_of_across hA.left (List.pairwise_cons.2 ⟨?_, hA.right⟩) ?_
        · have h2 := across_of O (a := [x]) (b := A2) (by simp [Srt]) hA.right (fun a' z y b' e1 e2 => by
            have e1 : a' = [] ∧ z = x := by
              cases a' with
              | nil => simp at e1; exact ⟨rfl, e1.symm⟩
              | cons _ _ => simp at e1
            obtain ⟨rfl, rfl⟩ := e1
            subst e2
            have e3 := g4 (by simp at hA2 hm ⊢; omega)
            rw [atL_of (p := p ++ A1) (s := b' ++ z :: s) (x := y) (by simp) (by simp; omega)] at e3
            simp at e3
            exact O.asym _ _ e3)
          intro y hy
          exact h2 x (by simp) y hy
        · have h2 := across_of O (a := A1) (b := [x]) hA.left (by simp [Srt]) (fun a' z y b' e1 e2 => by
            simp at e2; obtain ⟨rfl, _⟩ := e2
            subst e1
            have e3 := g3 (by simp at hA1; omega)
            rw [atL_of (p := p ++ a') (s := A2 ++ x :: s) (x := z) (by simp) (by simp at hA1 ⊢; omega)] at e3
            simpa using e3)
          intro z hz w hw
          rcases List.mem_cons.1 hw with rfl | hw
          · exact h2 z hz _ (by simp)
          · exact hA.across z hz w hw
      · rw [if_neg c2]
        dsimp only
        generalize hl : p ++ (A ++ (B ++ s)) = l
        generalize hmid : (p.length + b) / 2 = mid
        generalize hs0 : (if m > mid then mid + m - b else p.length) = s0
        generalize hr0 : (if m > mid then mid else m) = r0
        have hA2' : 2 ≤ A.length := by omega
        have hB2' : 2 ≤ B.length := by omega
        have hsr : s0 ≤ r0 ∧ p.length ≤ s0 ∧ r0 ≤ mid ∧ r0 ≤ m ∧ mid + m - s0 ≤ b ∧ m ≤ mid + m - r0 ∧ mid ≤ mid + m - r0 := by
          subst hs0 hr0; split <;> omega
        obtain ⟨g1, g2, g3, g4⟩ := bsL_spec (fun c => !lt (atL l (mid + m - 1 - c)) (atL l c)) (r0 - s0) s0 r0 (Nat.le_refl _) hsr.1
        generalize hst : bsL (fun c => !lt (atL l (mid + m - 1 - c)) (atL l c)) s0 r0 = st at *
        generalize hen : mid + m - st = en
        obtain ⟨A1, A2, rfl, hA1, hA2⟩ := split_at (l := A) (k := st - p.length) rfl (by omega)
        obtain ⟨B1, B2, rfl, hB1, hB2⟩ := split_at (l := B) (k := en - m) rfl (by omega)
        have h1 : (if st < m ∧ m < en then rotL (en - st) l m (m - st) (en - m) else l) = p ++ (A1 ++ (B1 ++ (A2 ++ (B2 ++ s)))) := by
          split
          · have := rotL_ok (en - st) (p ++ A1) A2 B1 (B2 ++ s) m (by omega) (by omega) (by omega) (by simp; omega)
            have e1 : A2.length = m - st := by omega
            have e2 : B1.length = en - m := by omega
            rw [e1, e2] at this
            rw [← hl]
            simp only [List.append_assoc] at this ⊢
            exact this
          · rw [← hl]
            have : A2 = [] ∨ B1 = [] := by
              by_cases h : A2.length = 0
              · exact .inl (List.length_eq_zero_iff.1 h)
              · exact .inr (List.length_eq_zero_iff.1 (by omega))
            rcases this with rfl | rfl <;> simp
        rw [h1]
        have hA12 : ∀ x ∈ A1, ∀ y ∈ A2, lt y x = false := hA.across
        have hB12 : ∀ x ∈ B1, ∀ y ∈ B2, lt y x = false := hB.across
        have hAB : ∀ x ∈ A1, ∀ y ∈ B2, lt y x = false := across_of O hA.left hB.right (fun a' x y b' e1 e2 => by
          subst e1 e2
          by_cases hlt : s0 < st
          · have e3 := g3 hlt
            have e4 : mid + m - 1 - (st - 1) = en := by omega
            simp only [e4] at e3
            rw [atL_of (l := l) (i := st - 1) (p := p ++ a') (s := A2 ++ (B1 ++ y :: b' ++ s)) (x := x) (by rw [← hl]; simp) (by simp at hA1 ⊢; omega),
              atL_of (l := l) (i := en) (p := p ++ (a' ++ [x] ++ A2) ++ B1) (s := b' ++ s) (x := y) (by rw [← hl]; simp) (by simp at hm hB1 ⊢; omega)] at e3
            simpa using e3
          · simp at hA1 hB2 hb hm hB1
            subst hs0
            split at hlt <;> omega)
        have hBA : ∀ x ∈ B1, ∀ y ∈ A2, lt y x = false := across_of O hB.left hA.right (fun a' x y b' e1 e2 => by
          subst e1 e2
          by_cases hlt : st < r0
          · have e3 := g4 hlt
            have e4 : mid + m - 1 - st = en - 1 := by omega
            simp only [e4] at e3
            rw [atL_of (l := l) (i := st) (p := p ++ A1) (s := b' ++ (a' ++ [x] ++ B2 ++ s)) (x := y) (by rw [← hl]; simp) (by simp at hA1 ⊢; omega),
              atL_of (l := l) (i := en - 1) (p := p ++ (A1 ++ y :: b') ++ a') (s := B2 ++ s) (x := x) (by rw [← hl]; simp) (by simp at hm hB1 ⊢; omega)] at e3
            simp at e3
            exact O.asym _ _ e3
          · exfalso
            simp only [List.length_append, List.length_cons, List.length_nil] at hA2 hB1 hA1 hm hb
            subst hr0
            split at hlt <;> omega)
        have h2 : ∃ C1, (if p.length < st ∧ st < mid then symL lt c (p ++ (A1 ++ (B1 ++ (A2 ++ (B2 ++ s))))) p.length st mid else p ++ (A1 ++ (B1 ++ (A2 ++ (B2 ++ s))))) = p ++ (C1 ++ (A2 ++ (B2 ++ s))) ∧ C1.Perm (A1 ++ B1) ∧ Srt lt C1 := by
          split
          · exact ih p A1 B1 (A2 ++ (B2 ++ s)) st mid (by omega) (by omega) (by omega) (by omega) (by omega) hA.left hB.left
          · refine ⟨A1 ++ B1, by simp, List.Perm.refl _, ?_⟩
            have : A1 = [] ∨ B1 = [] := by
              by_cases h : A1.length = 0
              · exact .inl (List.length_eq_zero_iff.1 h)
              · exact .inr (List.length_eq_zero_iff.1 (by omega))
            rcases this with rfl | rfl
            · simpa using hB.left
            · simpa using hA.left
        obtain ⟨C1, h2, p1, s1⟩ := h2
        rw [h2]
        have lC1 := p1.length_eq
        have h3 : ∃ C2, (if mid < en ∧ en < b then symL lt c (p ++ (C1 ++ (A2 ++ (B2 ++ s)))) mid en b else p ++ (C1 ++ (A2 ++ (B2 ++ s)))) = p ++ (C1 ++ (C2 ++ s)) ∧ C2.Perm (A2 ++ B2) ∧ Srt lt C2 := by
          split
          · have := ih (p ++ C1) A2 B2 s en b (by simp at lC1 ⊢; omega) (by omega) (by omega) (by omega) (by omega) hA.right hB.right
            have e1 : (p ++ C1).length = mid := by simp at lC1 ⊢; omega
            rw [e1] at this
            simpa using this
          · refine ⟨A2 ++ B2, by simp, List.Perm.refl _, ?_⟩
            have : A2 = [] ∨ B2 = [] := by
              by_cases h : A2.length = 0
              · exact .inl (List.length_eq_zero_iff.1 h)
              · exact .inr (List.length_eq_zero_iff.1 (by simp at hb hm; omega))
            rcases this with rfl | rfl
            · simpa using hB.right
            · simpa using hA.right
        obtain ⟨C2, h3, p2, s2⟩ := h3
        rw [h3]
        refine ⟨C1 ++ C2, by simp, ?_, srt_of_across s1 s2 ?_⟩
        · refine (p1.append p2).trans ?_
          simp only [List.append_assoc]
          refine List.Perm.append_left _ ?_
          rw [← List.append_assoc, ← List.append_assoc]
          exact List.Perm.append_right _ List.perm_append_comm
        · intro x hx y hy
          have hx := p1.mem_iff.1 hx
          have hy := p2.mem_iff.1 hy
          rcases List.mem_append.1 hx with hx | hx <;> rcases List.mem_append.1 hy with hy | hy
          · exact hA12 x hx y hy
          · exact hAB x hx y hy
          · exact hBA x hx y hy
          · exact hB12 x hx y hy
def blkL [Inhabited α] (lt : α → α → Bool) (l : List α) : Nat → List α
  | 0 => l
  | t + 1 => insN lt (blkL lt l t) (20 * t) 19
def mrgL [Inhabited α] (lt : α → α → Bool) (l : List α) (bs : Nat) : Nat → List α
  | 0 => l
  | t + 1 => symL lt (2 * bs) (mrgL lt l bs t) (2 * bs * t) (2 * bs * t + bs) (2 * bs * t + 2 * bs)
def passL [Inhabited α] (lt : α → α → Bool) (l : List α) (bs n : Nat) : List α :=
  if 2 * bs * (n / (2 * bs)) + bs < n then symL lt (n - 2 * bs * (n / (2 * bs))) (mrgL lt l bs (n / (2 * bs))) (2 * bs * (n / (2 * bs))) (2 * bs * (n / (2 * bs)) + bs) n
  else mrgL lt l bs (n / (2 * bs))
def outL [Inhabited α] (lt : α → α → Bool) (n : Nat) : Nat → List α → Nat → List α
  | 0, l, _ => l
  | c + 1, l, bs => if bs < n then outL lt n c (passL lt l bs n) (2 * bs) else l
def stabL [Inhabited α] (lt : α → α → Bool) (l : List α) : List α :=
  outL lt l.length l.length (insN lt (blkL lt l (l.length / 20)) (20 * (l.length / 20)) (l.length - 20 * (l.length / 20) - 1)) 20
def Pcs (lt : α → α → Bool) (bs : Nat) (l : List α) : Prop := ∀ q, Srt lt ((l.drop (q * bs)).take bs)
theorem srt_nil : Srt lt ([] : List α) := List.Pairwise.nil
theorem blkL_ok [Inhabited α] (O : Ord lt) (l : List α) : ∀ t, 20 * t ≤ l.length → ∃ X, blkL lt l t = X ++ l.drop (20 * t) ∧ X.Perm (l.take (20 * t)) ∧ ∀ q, q < t → Srt lt ((X.drop (q * 20)).take 20) := by
  intro t
  induction t with
  | zero => intro _; exact ⟨[], by simp [blkL], by simp, by intro q hq; omega⟩
  | succ t ih =>
    intro h
    obtain ⟨X, h1, h2, h3⟩ := ih (by omega)
    have hX : X.length = 20 * t := by have := h2.length_eq; simp at this; omega
    obtain ⟨Y, R, hY, hY1, hY2⟩ := split_at (l := l.drop (20 * t)) (n := l.length - 20 * t) (k := 20) (by simp) (by omega)
    obtain ⟨C, h4, h5, h6⟩ := insN_ok O 19 X Y R hY1
    have hC : C.length = 20 := by rw [h5.length_eq, hY1]
    have hR : l.drop (20 * (t + 1)) = R := by
      have : l.drop (20 * (t + 1)) = (l.drop (20 * t)).drop 20 := by rw [List.drop_drop]; congr 1
      rw [this, hY, ← hY1]; simp
    have hT : l.take (20 * (t + 1)) = l.take (20 * t) ++ Y := by
      have : 20 * (t + 1) = 20 * t + 20 := by omega
      rw [this, List.take_add, hY, ← hY1]; simp
    refine ⟨X ++ C, ?_, ?_, ?_⟩
    · rw [blkL, h1, hY, ← hX, h4, hR]; simp
    · rw [hT]; exact h2.append h5
    · intro q hq
      by_cases hqt : q < t
      · have e1 : ((X ++ C).drop (q * 20)).take 20 = (X.drop (q * 20)).take 20 := by
          rw [List.drop_append_of_le_length (by omega), List.take_append_of_le_length (by simp; omega)]
        rw [e1]; exact h3 q hqt
      · have e1 : ((X ++ C).drop (q * 20)).take 20 = C := by
          have : q * 20 = X.length := by omega
          rw [this]; simp [List.take_of_length_le, hC]
        rw [e1]; exact h6
theorem mrgL_ok [Inhabited α] (O : Ord lt) (l : List α) (bs : Nat) (h0 : 0 < bs) (hP : Pcs lt bs l) : ∀ t, 2 * bs * t ≤ l.length →
    ∃ X, mrgL lt l bs t = X ++ l.drop (2 * bs * t) ∧ X.Perm (l.take (2 * bs * t)) ∧ ∀ q, q < t → Srt lt ((X.drop (q * (2 * bs))).take (2 * bs)) := by
  intro t
  induction t with
  | zero => intro _; exact ⟨[], by simp [mrgL], by simp, by intro q hq; omega⟩
  | succ t ih =>
    intro h
    have e0 : 2 * bs * (t + 1) = 2 * bs * t + 2 * bs := by rw [Nat.mul_add, Nat.mul_one]
    obtain ⟨X, h1, h2, h3⟩ := ih (by omega)
    have hX : X.length = 2 * bs * t := by have := h2.length_eq; simp at this; omega
    obtain ⟨A, R, hA, hA1, hA2⟩ := split_at (l := l.drop (2 * bs * t)) (n := l.length - 2 * bs * t) (k := bs) (by simp) (by omega)
    obtain ⟨B, S, rfl, hB1, hB2⟩ := split_at (l := R) (k := bs) rfl (by omega)
    have sA : Srt lt A := by
      have := hP (2 * t)
      have e : 2 * t * bs = 2 * bs * t := by rw [Nat.mul_assoc, Nat.mul_comm t, Nat.mul_assoc]
      rw [e, hA, ← hA1] at this; simpa using this
    have sB : Srt lt B := by
      have := hP (2 * t + 1)
      have e : (2 * t + 1) * bs = 2 * bs * t + bs := by rw [Nat.add_mul, Nat.one_mul, Nat.mul_assoc, Nat.mul_comm t, Nat.mul_assoc]
      rw [e, ← List.drop_drop, hA] at this
      have e2 : (A ++ (B ++ S)).drop bs = B ++ S := by rw [← hA1]; simp
      rw [e2, ← hB1] at this; simpa using this
    obtain ⟨C, h4, h5, h6⟩ := symL_ok O (2 * bs) X A B S (2 * bs * t + bs) (2 * bs * t + 2 * bs) (by omega) (by omega) (by omega) (by omega) (by omega) sA sB
    have hC : C.length = 2 * bs := by rw [h5.length_eq]; simp; omega
    have hR : l.drop (2 * bs * (t + 1)) = S := by
      rw [e0, ← List.drop_drop, hA]
      have : 2 * bs = (A ++ B).length := by simp; omega
      rw [this, ← List.append_assoc]; simp
    have hT : l.take (2 * bs * (t + 1)) = l.take (2 * bs * t) ++ (A ++ B) := by
      have e9 : (A ++ (B ++ S)).take (2 * bs) = A ++ B := by
        rw [← List.append_assoc, show 2 * bs = (A ++ B).length by simp only [List.length_append]; omega]; exact List.take_left
      rw [e0, List.take_add, hA, e9]
    refine ⟨X ++ C, ?_, ?_, ?_⟩
    · rw [mrgL, h1, hA]
      have := h4
      rw [hX] at this
      rw [this, hR]; simp
    · rw [hT]; exact h2.append h5
    · intro q hq
      by_cases hqt : q < t
      · have e9 : q * (2 * bs) + 2 * bs ≤ 2 * bs * t := by
          have : (q + 1) * (2 * bs) ≤ t * (2 * bs) := Nat.mul_le_mul_right _ hqt
          rw [Nat.add_mul, Nat.one_mul, Nat.mul_comm t] at this; exact this
        have e1 : ((X ++ C).drop (q * (2 * bs))).take (2 * bs) = (X.drop (q * (2 * bs))).take (2 * bs) := by
          rw [List.drop_append_of_le_length (by omega), List.take_append_of_le_length (by simp; omega)]
        rw [e1]; exact h3 q hqt
      · have e1 : ((X ++ C).drop (q * (2 * bs))).take (2 * bs) = C := by
          have : q * (2 * bs) = X.length := by rw [hX, Nat.mul_comm]; congr 1; omega
          rw [this]; simp [List.take_of_length_le, hC]
        rw [e1]; exact h6
theorem pcs_of (bs t : Nat) (X C : List α) (hX : X.length = bs * t) (hC : C.length ≤ bs) (h1 : ∀ q, q < t → Srt lt ((X.drop (q * bs)).take bs)) (h2 : Srt lt C) : Pcs lt bs (X ++ C) := by
  intro q
  by_cases hqt : q < t
  · have e9 : q * bs + bs ≤ bs * t := by
      have : (q + 1) * bs ≤ t * bs := Nat.mul_le_mul_right _ hqt
      rw [Nat.add_mul, Nat.one_mul, Nat.mul_comm t] at this; exact this
    have e1 : ((X ++ C).drop (q * bs)).take bs = (X.drop (q * bs)).take bs := by
      rw [List.drop_append_of_le_length (by omega), List.take_append_of_le_length (by simp; omega)]
    rw [e1]; exact h1 q hqt
  · have : X.length ≤ q * bs := by rw [hX, Nat.mul_comm]; exact Nat.mul_le_mul_right _ (by omega)
    rw [List.drop_append, List.drop_eq_nil_of_le this, List.nil_append]
    exact (h2.drop _).take _
theorem passL_ok [Inhabited α] (O : Ord lt) (l : List α) (bs : Nat) (h0 : 0 < bs) (hP : Pcs lt bs l) : Pcs lt (2 * bs) (passL lt l bs l.length) ∧ (passL lt l bs l.length).Perm l := by
  have hd := Nat.div_add_mod l.length (2 * bs)
  have hlt := Nat.mod_lt l.length (show 2 * bs > 0 by omega)
  obtain ⟨X, h1, h2, h3⟩ := mrgL_ok O l bs h0 hP (l.length / (2 * bs)) (by omega)
  generalize ht : l.length / (2 * bs) = t at *
  have hX : X.length = 2 * bs * t := by have := h2.length_eq; simp at this; omega
  have eA : l.take (2 * bs * t) ++ l.drop (2 * bs * t) = l := List.take_append_drop _ _
  rw [passL, ht]
  split
  · rename_i hlt2
    obtain ⟨A, B, hA, hA1, hA2⟩ := split_at (l := l.drop (2 * bs * t)) (n := l.length - 2 * bs * t) (k := bs) (by simp) (by omega)
    have sA : Srt lt A := by
      have := hP (2 * t)
      have e : 2 * t * bs = 2 * bs * t := by rw [Nat.mul_assoc, Nat.mul_comm t, Nat.mul_assoc]
      rw [e, hA, ← hA1] at this; simpa using this
    have sB : Srt lt B := by
      have := hP (2 * t + 1)
      have e : (2 * t + 1) * bs = 2 * bs * t + bs := by rw [Nat.add_mul, Nat.one_mul, Nat.mul_assoc, Nat.mul_comm t, Nat.mul_assoc]
      rw [e, ← List.drop_drop, hA] at this
      have e2 : (A ++ B).drop bs = B := by rw [← hA1]; simp
      rw [e2, List.take_of_length_le (by omega)] at this; exact this
    obtain ⟨C, h4, h5, h6⟩ := symL_ok O (l.length - 2 * bs * t) X A B [] (2 * bs * t + bs) l.length (by omega) (by omega) (by omega) (by omega) (by omega) sA sB
    rw [hX] at h4
    simp only [List.append_nil] at h4
    rw [h1, hA, h4]
    have hC := h5.length_eq
    simp at hC
    refine ⟨pcs_of (2 * bs) t X C hX (by omega) h3 h6, ?_⟩
    have := h2.append h5
    rw [← hA, eA] at this; exact this
  · rename_i hge
    rw [h1]
    refine ⟨pcs_of (2 * bs) t X _ hX (by simp; omega) h3 ?_, ?_⟩
    · have := hP (2 * t)
      have e : 2 * t * bs = 2 * bs * t := by rw [Nat.mul_assoc, Nat.mul_comm t, Nat.mul_assoc]
      rw [e, List.take_of_length_le (by simp; omega)] at this; exact this
    · have := h2.append_right (l.drop (2 * bs * t))
      rw [eA] at this; exact this
theorem outL_ok [Inhabited α] (O : Ord lt) (n : Nat) : ∀ (c : Nat) (l : List α) (bs : Nat), l.length = n → 0 < bs → n ≤ bs + c → Pcs lt bs l → Srt lt (outL lt n c l bs) ∧ (outL lt n c l bs).Perm l := by
  have fin : ∀ (l : List α) (bs : Nat), l.length = n → n ≤ bs → Pcs lt bs l → Srt lt l := by
    intro l bs hl hb hP
    have := hP 0
    simp [List.take_of_length_le (show l.length ≤ bs by omega)] at this; exact this
  intro c
  induction c with
  | zero => intro l bs hl h0 hn hP; rw [outL]; exact ⟨fin l bs hl hn hP, List.Perm.refl _⟩
  | succ c ih =>
    intro l bs hl h0 hn hP
    rw [outL]
    split
    · have h1 := passL_ok O l bs h0 hP
      rw [hl] at h1
      have h2 := ih (passL lt l bs n) (2 * bs) (by rw [h1.2.length_eq, hl]) (by omega) (by omega) h1.1
      exact ⟨h2.1, h2.2.trans h1.2⟩
    · exact ⟨fin l bs hl (by omega) hP, List.Perm.refl _⟩
theorem stabL_ok [Inhabited α] (O : Ord lt) (l : List α) : Srt lt (stabL lt l) ∧ (stabL lt l).Perm l := by
  have hd := Nat.div_add_mod l.length 20
  have hlt := Nat.mod_lt l.length (show 20 > 0 by omega)
  obtain ⟨X, h1, h2, h3⟩ := blkL_ok O l (l.length / 20) (by omega)
  rw [stabL]
  generalize ht : l.length / 20 = t at *
  have hX : X.length = 20 * t := by have := h2.length_eq; simp at this; omega
  have eA : l.take (20 * t) ++ l.drop (20 * t) = l := List.take_append_drop _ _
  have key : ∃ C, insN lt (blkL lt l t) (20 * t) (l.length - 20 * t - 1) = X ++ C ∧ C.Perm (l.drop (20 * t)) ∧ Srt lt C := by
    rw [h1]
    by_cases hz : l.length - 20 * t = 0
    · have e : l.drop (20 * t) = [] := List.drop_eq_nil_of_le (by omega)
      rw [e, hz]
      exact ⟨[], by simp [insN], List.Perm.refl _, srt_nil⟩
    · obtain ⟨C, h4, h5, h6⟩ := insN_ok O (l.length - 20 * t - 1) X (l.drop (20 * t)) [] (by simp; omega)
      rw [hX] at h4
      exact ⟨C, by simpa using h4, h5, h6⟩
  obtain ⟨C, h4, h5, h6⟩ := key
  rw [h4]
  have hC := h5.length_eq
  simp at hC
  have hp : (X ++ C).Perm l := by have := h2.append h5; rwa [eA] at this
  have h7 := outL_ok O l.length l.length (X ++ C) 20 hp.length_eq (by omega) (by omega) (pcs_of 20 t X C hX (by omega) h3 h6)
  exact ⟨h7.1, h7.2.trans hp⟩
end Go.Sx
namespace Go.Rt
open Go Go.Sx
structure Dec where
  e : Ent
  husk : Bool
  nothing : Bool
  masked : Bool
  expired : Bool
  rank : Int
  deriving Inhabited
def decAV (d : Dec) : AV := .agg [entAV d.e, .bool d.husk, .bool d.nothing, .bool d.masked, .bool d.expired, .int .i64 d.rank]
attribute [go_sem] decAV
structure Wlk where
  s : List Fml
  clock : Int
  any : Bool
  last : Ent
  famMask : Int
  colMask : Int
  rank : Int
  opn : Bool
  ge : Ent
  lone : Bool
  deriving Inhabited
structure Tk (P : Program) where
  σ : Type
  kw : Nat
  recv : AV
  g : FuncId
  o : FuncId
  m : FuncId
  fg : ∃ fn, P.funcs[g]? = some fn ∧ fn.body.isSome = true ∧ (fn.name == "runtime.NumGoroutine") = false
  fo : ∃ fn, P.funcs[o]? = some fn ∧ fn.body.isSome = true ∧ (fn.name == "runtime.NumGoroutine") = false
  fm : ∃ fn, P.funcs[m]? = some fn ∧ fn.body.isSome = true ∧ (fn.name == "runtime.NumGoroutine") = false
  keys : Nat → Prop
  kwn : ¬ keys kw
  holds : σ → Heap → Nat → Prop
  ext : ∀ st H H' n n', n ≤ n' → (∀ k, k < n → k ≠ kw → H' k = H k) → holds st H n → holds st H' n'
  grp : List Fml → σ → Dec → σ
  old : σ → σ
  mrk : σ → Ent → Bool → σ
def tkAV {P : Program} (T : Tk P) : AV := .agg [.fn (.func T.g) [T.recv] [], .fn (.func T.o) [T.recv] [], .fn (.func T.m) [T.recv] []]
def walkAV {P : Program} (T : Tk P) (w : Wlk) : AV := .agg [schAV w.s, .int .i64 w.clock, tkAV T, .bool w.any, entAV w.last, .int .i64 w.famMask, .int .i64 w.colMask, .int .i64 w.rank, .bool w.opn, .agg [entAV w.ge, .bool w.lone]]
attribute [go_sem] tkAV walkAV
structure Left {P : Program} (T : Tk P) (H : Heap) (n : Nat) (w : Wlk) (st : T.σ) (H' : Heap) (n' : Nat) : Prop where
  le : n ≤ n'
  walk : H' T.kw = some (.arr 0 25 [walkAV T w])
  tk : T.holds st H' n'
  rest : ∀ k, k < n → k ≠ T.kw → ¬ T.keys k → H' k = H k
def LeftU {P : Program} (T : Tk P) (H : Heap) (n : Nat) (w : Wlk) (st : T.σ) (res : ARes) (H' : Heap) (n' : Nat) : Prop := res = .val (.tup []) ∧ Left T H n w st H' n'
structure Ahead {P : Program} (T : Tk P) (H : Heap) (n : Nat) (w : Wlk) (st : T.σ) : Prop where
  kw : T.kw < n
  keys : ∀ k, T.keys k → k < n
  walk : H T.kw = some (.arr 0 25 [walkAV T w])
  tk : T.holds st H n
structure TkOK {P : Program} (T : Tk P) (ok : T.σ → Prop) : Prop where
  cg : ∀ (w : Wlk) (st : T.σ) (d : Dec) (H : Heap) (n : Nat), Ahead T H n w st → ok st → 0 ≤ d.e.fam → d.e.fam < w.s.length → d.e.fits → ACalls P T.g [T.recv, decAV d] H n (LeftU T H n w (T.grp w.s st d))
  co : ∀ (w : Wlk) (st : T.σ) (H : Heap) (n : Nat), Ahead T H n w st → ok st → ACalls P T.o [T.recv] H n (LeftU T H n w (T.old st))
  cm : ∀ (w : Wlk) (st : T.σ) (e : Ent) (b : Bool) (H : Heap) (n : Nat), Ahead T H n w st → ok st → e.fits → ACalls P T.m [T.recv, entAV e, .bool b] H n (LeftU T H n w (T.mrk st e b))
theorem callK_useK {P : Program} {f : FuncId} {fn : Func} {first captured args args' : List AV} {H : Heap} {n : Nat} {k kp : AV → Heap → Nat → Prop} {K0 : ARes → Heap → Nat → Prop}
    (hf : P.funcs[f]? = some fn) (hb : fn.body.isSome = true) (hn : (fn.name == "runtime.NumGoroutine") = false) (ha : first ++ args ++ captured = args') (h : ACalls P f args' H n K0)
    (hk : ∀ r H' n', K0 (.val r) H' n' → k r H' n') (hp : ∀ p H' n', K0 (.pan p) H' n' → kp p H' n') : callK P (.fn (.func f) first captured) args H n k kp := by
  rw [callK_fn]
  exact .inl ⟨⟨fn, hf, hb, hn⟩, by rw [ha]; exact h.mono fun r H n hr => by cases r <;> first | exact hk _ _ _ hr | exact hp _ _ _ hr⟩
theorem Left.up {P : Program} {T : Tk P} {H H1 H' : Heap} {n n1 n' : Nat} {w : Wlk} {st : T.σ} (h : Left T H1 n1 w st H' n') (hn : n ≤ n1) (hr : ∀ k, k < n → k ≠ T.kw → ¬ T.keys k → H1 k = H k) : Left T H n w st H' n' :=
  ⟨Nat.le_trans hn h.le, h.walk, h.tk, fun k hk h1 h2 => (h.rest k (by omega) h1 h2).trans (hr k hk h1 h2)⟩
def verW (w : Wlk) (e : Ent) : Wlk := if w.opn = false then { w with opn := true, ge := e, lone := e.kind == 3 } else { w with lone := if e.kind ≠ 3 then false else w.lone }
def verT {P : Program} (T : Tk P) (w : Wlk) (st : T.σ) : T.σ := if w.opn = false then st else T.old st
def outD (d : Dec) : Bool := d.masked || d.expired
def famAt (s : List Fml) (i : Int) : Fml := s.getD i.toNat default
def dec0 (w : Wlk) : Dec := ⟨w.ge, bif w.ge.kind == 2 then true else bif w.ge.kind == 3 then !w.lone else false, w.lone, decide (w.ge.ts ≤ max w.famMask w.colMask), bif decide (0 < (famAt w.s w.ge.fam).ttl) then decide (w.ge.ts + (famAt w.s w.ge.fam).ttl ≤ w.clock) else false, 0⟩
def decOf (w : Wlk) : Dec := bif !outD (dec0 w) && !w.lone then { dec0 w with rank := w.rank + 1 } else dec0 w
def closeW (w : Wlk) : Wlk := if w.opn = false then w else { w with opn := false, rank := bif !outD (dec0 w) && !w.lone then w.rank + 1 else w.rank }
def closeT {P : Program} (T : Tk P) (w : Wlk) (st : T.σ) : T.σ := if w.opn = false then st else T.grp w.s st (decOf w)
end Go.Rt
namespace Go.Rt
open Go Go.Sx
structure WOK (w : Wlk) : Prop where
  fam : w.opn = true → 0 ≤ w.ge.fam ∧ w.ge.fam < w.s.length ∧ w.ge.fits ∧ 0 ≤ w.ge.ts ∧ w.ge.ts ≤ 1099511627776
  ttl : ∀ f ∈ w.s, 0 ≤ f.ttl ∧ f.ttl ≤ 1099511627776
  rank : 0 ≤ w.rank ∧ w.rank < 4611686018427387904
end Go.Rt
namespace Go.Rt
open Go Go.Sx
def endsE (w : Wlk) (e : Ent) : Bool := bif w.opn then (bif (bif !sameColE w.ge e then true else w.ge.ts != e.ts) then true else e.kind == 4) else false
def nx1 (w : Wlk) (e : Ent) : Wlk := bif endsE w e then closeW w else w
def nt1 {P : Program} (T : Tk P) (w : Wlk) (st : T.σ) (e : Ent) : T.σ := bif endsE w e then closeT T w st else st
def newFam (w : Wlk) (e : Ent) : Bool := bif !w.any then true else !sameFamE w.last e
def nx2 (w : Wlk) (e : Ent) : Wlk := bif newFam w e then { w with famMask := 0, colMask := 0, rank := 0 } else w
def newCol (w : Wlk) (e : Ent) : Bool := bif w.any then !sameColE w.last e else false
def nx3 (w : Wlk) (e : Ent) : Wlk := bif newCol w e then { w with colMask := 0, rank := 0 } else w
def nx4 (w : Wlk) (e : Ent) : Wlk := { w with any := true, last := e }
def nx5 (w : Wlk) (e : Ent) : Wlk :=
  if e.kind = 5 then { w with famMask := max w.famMask e.ts } else if e.kind = 4 then { w with colMask := max w.colMask e.ts } else verW w e
def nt5 {P : Program} (T : Tk P) (w : Wlk) (st : T.σ) (e : Ent) : T.σ :=
  if e.kind = 5 then T.mrk st e (w.famMask == 0) else if e.kind = 4 then T.mrk st e (bif w.colMask == 0 then decide (w.famMask < e.ts) else false) else verT T w st
def nextW (w : Wlk) (e : Ent) : Wlk := nx5 (nx4 (nx3 (nx2 (nx1 w e) e) e) e) e
def nextT {P : Program} (T : Tk P) (w : Wlk) (st : T.σ) (e : Ent) : T.σ := nt5 T (nx4 (nx3 (nx2 (nx1 w e) e) e) e) (nt1 T w st e) e
structure Amid {P : Program} (T : Tk P) (H : Heap) (n : Nat) (e : Ent) (w : Wlk) (st : T.σ) (T' : Nat → AV) (H' : Heap) (n' : Nat) : Prop where
  t0 : T' 0 = .loc T.kw 0 0 0 []
  t3 : T' 3 = .loc n 0 0 0 []
  en : H' n = some (.arr 0 7 [entAV e])
  le : n + 1 ≤ n'
  walk : H' T.kw = some (.arr 0 25 [walkAV T w])
  tk : T.holds st H' n'
  rest : ∀ k, k < n → k ≠ T.kw → ¬ T.keys k → H' k = H k
end Go.Rt
namespace Go.Rt
open Go Go.Sx
section
variable {P : Program} {T : Tk P} {H H1 : Heap} {n n1 : Nat} {e : Ent} {w' : Wlk} {st : T.σ}
theorem put_kw (o : Option AObj) {k : Nat} (h : k ≠ T.kw) : (H1.put T.kw o) k = H1 k := Heap.put_ne _ _ h
theorem amid_put (hkw : T.kw < n) (he : H1 n = some (.arr 0 7 [entAV e])) (hn : n + 1 ≤ n1) (htk : T.holds st H1 n1) (hrest : ∀ k, k < n → k ≠ T.kw → ¬ T.keys k → H1 k = H k) (w' : Wlk) {T' : Nat → AV}
    (h0 : T' 0 = .loc T.kw 0 0 0 []) (h3 : T' 3 = .loc n 0 0 0 []) : Amid T H n e w' st T' (H1.put T.kw (some (.arr 0 25 [walkAV T w']))) n1 where
  t0 := h0
  t3 := h3
  en := by rw [put_kw _ (by omega)]; exact he
  le := hn
  walk := by simp [Heap.put]
  tk := T.ext st H1 _ n1 n1 (Nat.le_refl _) (fun k _ hk => put_kw _ hk) htk
  rest := fun k hk h1 h2 => by rw [put_kw _ h1]; exact hrest k hk h1 h2
theorem ahead_put (hkw : T.kw < n) (hkeys : ∀ k, T.keys k → k < n) (hn : n + 1 ≤ n1) (htk : T.holds st H1 n1) (w' : Wlk) : Ahead T (H1.put T.kw (some (.arr 0 25 [walkAV T w']))) n1 w' st where
  kw := by omega
  keys := fun k hk => by have := hkeys k hk; omega
  walk := by simp [Heap.put]
  tk := T.ext st H1 _ n1 n1 (Nat.le_refl _) (fun k _ hk => put_kw _ hk) htk
theorem left_put (hn : n ≤ n1) (htk : T.holds st H1 n1) (hrest : ∀ k, k < n → k ≠ T.kw → ¬ T.keys k → H1 k = H k) (w' : Wlk) : Left T H n w' st (H1.put T.kw (some (.arr 0 25 [walkAV T w']))) n1 where
  le := hn
  walk := by simp [Heap.put]
  tk := T.ext st H1 _ n1 n1 (Nat.le_refl _) (fun k _ hk => put_kw _ hk) htk
  rest := fun k hk h1 h2 => by rw [put_kw _ h1]; exact hrest k hk h1 h2
end
end Go.Rt
namespace Go.Rt
open Go Go.Sx
def goodE (s : List Fml) (e : Ent) : Prop := 0 ≤ e.fam ∧ e.fam < s.length ∧ e.fits ∧ 0 ≤ e.ts ∧ e.ts ≤ 1099511627776
structure WRk (s : List Fml) (r : Int) (w : Wlk) : Prop where
  sch : w.s = s
  fam : w.opn = true → goodE s w.ge
  lo : 0 ≤ w.rank
  hi : w.rank ≤ r
theorem WRk.wok {s : List Fml} {r : Int} {w : Wlk} (h : WRk s r w) (hr : r < 4611686018427387904) (ht : ∀ f ∈ s, 0 ≤ f.ttl ∧ f.ttl ≤ 1099511627776) : WOK w :=
  ⟨fun ho => by have := h.fam ho; rw [h.sch]; exact this, by rw [h.sch]; exact ht, h.lo, by have := h.hi; omega⟩
theorem WRk.close {s : List Fml} {r : Int} {w : Wlk} (h : WRk s r w) : WRk s (r + 1) (closeW w) := by
  have h1 := h.lo; have h2 := h.hi
  unfold closeW
  split
  · exact ⟨h.sch, h.fam, h.lo, by omega⟩
  · refine ⟨h.sch, fun ho => by simp at ho, ?_, ?_⟩ <;> (cases (!outD (dec0 w) && !w.lone) <;> simp <;> omega)
theorem WRk.mono {s : List Fml} {r r' : Int} {w : Wlk} (h : WRk s r w) (hr : r ≤ r') : WRk s r' w := ⟨h.sch, h.fam, h.lo, by have := h.hi; omega⟩
theorem WRk.next {s : List Fml} {r : Int} {w : Wlk} {e : Ent} (h : WRk s r w) (he : goodE s e) (hr : 0 ≤ r) : WRk s (r + 1) (nextW w e) := by
  have h1 : WRk s (r + 1) (nx1 w e) := by
    unfold nx1; cases endsE w e
    · exact h.mono (by omega)
    · exact h.close
  have h2 : WRk s (r + 1) (nx2 (nx1 w e) e) := by
    unfold nx2; cases newFam (nx1 w e) e
    · exact h1
    · exact ⟨h1.sch, h1.fam, Int.le_refl _, by simp; omega⟩
  have h3 : WRk s (r + 1) (nx3 (nx2 (nx1 w e) e) e) := by
    unfold nx3; cases newCol (nx2 (nx1 w e) e) e
    · exact h2
    · exact ⟨h2.sch, h2.fam, Int.le_refl _, by simp; omega⟩
  have h4 : WRk s (r + 1) (nx4 (nx3 (nx2 (nx1 w e) e) e) e) := ⟨h3.sch, h3.fam, h3.lo, h3.hi⟩
  unfold nextW nx5
  split
  · exact ⟨h4.sch, h4.fam, h4.lo, h4.hi⟩
  · split
    · exact ⟨h4.sch, h4.fam, h4.lo, h4.hi⟩
    · unfold verW
      split
      · exact ⟨h4.sch, fun _ => he, h4.lo, h4.hi⟩
      · exact ⟨h4.sch, h4.fam, h4.lo, h4.hi⟩
structure TkInv {P : Program} (T : Tk P) (ok : T.σ → Prop) (M : Nat) (inv : Nat → T.σ → Prop) : Prop where
  ok : ∀ i st, i ≤ M → inv i st → ok st
  up : ∀ i st, inv i st → inv (i + 1) st
  g : ∀ i s st d, inv i st → inv (i + 1) (T.grp s st d)
  o : ∀ i st, inv i st → inv (i + 1) (T.old st)
  m : ∀ i st e b, inv i st → inv (i + 1) (T.mrk st e b)
theorem TkInv.close {P : Program} {T : Tk P} {ok : T.σ → Prop} {M : Nat} {inv : Nat → T.σ → Prop} (h : TkInv T ok M inv) {i : Nat} {w : Wlk} {st : T.σ} (hi : inv i st) : inv (i + 1) (closeT T w st) := by
  unfold closeT; split
  · exact h.up _ _ hi
  · exact h.g _ _ _ _ hi
theorem TkInv.nt1 {P : Program} {T : Tk P} {ok : T.σ → Prop} {M : Nat} {inv : Nat → T.σ → Prop} (h : TkInv T ok M inv) {i : Nat} {w : Wlk} {e : Ent} {st : T.σ} (hi : inv i st) : inv (i + 1) (nt1 T w st e) := by
  unfold Rt.nt1; cases endsE w e
  · exact h.up _ _ hi
  · exact h.close hi
theorem TkInv.next {P : Program} {T : Tk P} {ok : T.σ → Prop} {M : Nat} {inv : Nat → T.σ → Prop} (h : TkInv T ok M inv) {i : Nat} {w : Wlk} {e : Ent} {st : T.σ} (hi : inv i st) : inv (i + 2) (nextT T w st e) := by
  have h1 := h.nt1 (w := w) (e := e) hi
  unfold nextT nt5
  split
  · exact h.m _ _ _ _ h1
  · split
    · exact h.m _ _ _ _ h1
    · unfold verT; split
      · exact h.up _ _ h1
      · exact h.o _ _ h1
def runP {P : Program} (T : Tk P) : List Ent → Wlk × T.σ → Wlk × T.σ
  | [], p => p
  | e :: l, p => runP T l (nextW p.1 e, nextT T p.1 p.2 e)
def runW {P : Program} (T : Tk P) (l : List Ent) (w : Wlk) (st : T.σ) : Wlk × T.σ :=
  let p := runP T l (w, st)
  (closeW p.1, closeT T p.1 p.2)
end Go.Rt
namespace Go.Rt
open Go Go.Sx
structure KSt where
  major : Bool
  low : Int
  out : List Ent
  older : Int
  masked : Int
  expired : Int
  above : Int
  marks : Int
def KSt.ok (s : KSt) : Prop := 0 ≤ s.older ∧ 0 ≤ s.masked ∧ 0 ≤ s.expired ∧ 0 ≤ s.above ∧ 0 ≤ s.marks ∧ s.older + s.masked + s.expired + s.above + s.marks + s.out.length ≤ 1000000000000
def keptG (f : List Fml) (s : KSt) (d : Dec) : KSt :=
  if d.masked = true then { s with masked := s.masked + 1 }
  else if d.expired = true then { s with expired := s.expired + 1 }
  else if d.nothing = true ∧ s.major = true then { s with marks := s.marks + 1 }
  else if d.nothing = true then { s with out := s.out ++ [d.e] }
  else if (famAt f d.e.fam).max < d.rank then { s with above := s.above + 1 }
  else if d.husk = true then { s with out := s.out ++ [{ d.e with kind := 2, value := [] }] }
  else { s with out := s.out ++ [d.e] }
def keptO (s : KSt) : KSt := { s with older := s.older + 1 }
def keptM (s : KSt) (e : Ent) (b : Bool) : KSt :=
  if b = false ∨ s.major = true ∧ e.ts ≤ s.low then { s with marks := s.marks + 1 } else { s with out := s.out ++ [e] }
def wlk0 (s : List Fml) (clock : Int) : Wlk := ⟨s, clock, false, ⟨[], 0, [], 0, 0, 0, []⟩, 0, 0, 0, false, ⟨[], 0, [], 0, 0, 0, []⟩, false⟩
def kst0 (major : Bool) (low : Int) : KSt := ⟨major, low, [], 0, 0, 0, 0, 0⟩
inductive Ev where
  | g (d : Dec)
  | o
  | m (e : Ent) (b : Bool)
def evT {σ : Type} (grp : σ → Dec → σ) (old : σ → σ) (mrk : σ → Ent → Bool → σ) (st : σ) : Ev → σ
  | .g d => grp st d
  | .o => old st
  | .m e b => mrk st e b
def closeV (w : Wlk) : List Ev := if w.opn = false then [] else [.g (decOf w)]
def ev1 (w : Wlk) (e : Ent) : List Ev := bif endsE w e then closeV w else []
def ev5 (w : Wlk) (e : Ent) : List Ev :=
  if e.kind = 5 then [.m e (w.famMask == 0)] else if e.kind = 4 then [.m e (bif w.colMask == 0 then decide (w.famMask < e.ts) else false)] else if w.opn = false then [] else [.o]
def evN (w : Wlk) (e : Ent) : List Ev := ev1 w e ++ ev5 (nx4 (nx3 (nx2 (nx1 w e) e) e) e) e
def evP : List Ent → Wlk → List Ev
  | [], w => closeV w
  | e :: l, w => evN w e ++ evP l (nextW w e)
section
variable {P : Program} (T : Tk P)
theorem closeT_ev (w : Wlk) (st : T.σ) : closeT T w st = (closeV w).foldl (evT (T.grp w.s) T.old T.mrk) st := by
  unfold closeT closeV; split <;> rfl
theorem closeW_s (w : Wlk) : (closeW w).s = w.s := by unfold closeW; split <;> rfl
theorem nx1_s (w : Wlk) (e : Ent) : (nx1 w e).s = w.s := by unfold nx1; cases endsE w e; rfl; exact closeW_s w
theorem nx4_s (w : Wlk) (e : Ent) : (nx4 (nx3 (nx2 (nx1 w e) e) e) e).s = w.s := by
  rw [← nx1_s w e]
  have h2 : ∀ w : Wlk, (nx2 w e).s = w.s := fun w => by unfold nx2; cases newFam w e <;> rfl
  have h3 : ∀ w : Wlk, (nx3 w e).s = w.s := fun w => by unfold nx3; cases newCol w e <;> rfl
  exact (h3 _).trans (h2 _)
theorem nextW_s (w : Wlk) (e : Ent) : (nextW w e).s = w.s := by
  rw [← nx4_s w e]
  unfold nextW nx5
  split
  · rfl
  · split
    · rfl
    · unfold verW; split <;> rfl
theorem nextT_ev (w : Wlk) (st : T.σ) (e : Ent) : nextT T w st e = (evN w e).foldl (evT (T.grp w.s) T.old T.mrk) st := by
  unfold nextT evN
  rw [List.foldl_append]
  have h1 : nt1 T w st e = (ev1 w e).foldl (evT (T.grp w.s) T.old T.mrk) st := by
    unfold nt1 ev1; cases endsE w e
    · rfl
    · exact closeT_ev T w st
  rw [h1]
  unfold nt5 ev5
  split
  · rfl
  · split
    · rfl
    · unfold verT; split <;> rfl
theorem runW_ev : ∀ (l : List Ent) (w : Wlk) (st : T.σ), (runW T l w st).2 = (evP l w).foldl (evT (T.grp w.s) T.old T.mrk) st := by
  intro l
  induction l with
  | nil => intro w st; exact closeT_ev T w st
  | cons e l ih =>
    intro w st
    have h : (runW T (e :: l) w st) = runW T l (nextW w e) (nextT T w st e) := rfl
    rw [h, ih, evP, List.foldl_append, nextT_ev, nextW_s]
end
def keptOf (s : List Fml) (clock : Int) (major : Bool) (low : Int) (m : List Ent) : KSt :=
  (evP m (wlk0 s clock)).foldl (evT (keptG s) keptO keptM) (kst0 major low)
end Go.Rt
namespace Go.Rt
open Go Go.Sx
structure SSt where
  t : Int
  n : Int
  out : List Ent
  count : Int
  last : Ent
def sst0 (t n : Int) : SSt := ⟨t, n, [], 0, ⟨[], 0, [], 0, 0, 0, []⟩⟩
def unseen (f : List Fml) (s : SSt) (d : Dec) : Bool :=
  bif (bif (bif d.rank == 0 then true else decide ((famAt f d.e.fam).max < d.rank)) then true else d.husk) then true else decide (s.t < d.e.ts)
def cnt1 (s : SSt) (d : Dec) : Int := if (bif decide (0 < s.count) then !sameColE s.last d.e else false) = true then 0 else s.count
def shownG (f : List Fml) (s : SSt) (d : Dec) : SSt :=
  if unseen f s d = true then s
  else if cnt1 s d < s.n then { s with count := cnt1 s d + 1, last := d.e, out := s.out ++ [d.e] } else { s with count := cnt1 s d }
def shownOf (s : List Fml) (clock t n : Int) (m : List Ent) : SSt := (evP m (wlk0 s clock)).foldl (evT (shownG s) id fun st _ _ => st) (sst0 t n)
def topG (t : Int) (d : Dec) : Int := if 0 < d.rank then max t d.e.ts else t
def topOf (s : List Fml) (clock : Int) (m : List Ent) : Int := (evP m (wlk0 s clock)).foldl (evT topG id fun st _ _ => st) 0
end Go.Rt
namespace Go.Rt
open Go Go.Sx
attribute [go_sem] List.getD_cons_zero List.getD_cons_succ
def ltE (x y : Ent) : Bool := decide (compE x y < 0)
def seqOf (acc : List Ent) (s : Int) : Option Ent := acc.find? fun x => x.seq == s
def ddE : List Ent → List Ent → Option (List Ent)
  | acc, [] => some acc
  | acc, e :: l => match seqOf acc e.seq with
    | some x => if x = e then ddE acc l else none
    | none => ddE (acc ++ [e]) l
def sortedE (l : List Ent) : List Ent × Int :=
  match ddE [] l with
  | some m => (stabL ltE m, 0)
  | none => ([], 31)
def badsE (s : List Fml) : List Ent → Int
  | [] => 0
  | e :: l => if checkedE s e ≠ 0 then checkedE s e else badsE s l
def prepE (s : List Fml) (clock : Int) (times : List Int) (k : Int) (l : List Ent) : List Ent × Int :=
  if boundsE s clock times k ≠ 0 then ([], boundsE s clock times k) else if badsE s l ≠ 0 then ([], badsE s l) else sortedE l
def squashE (s : List Fml) (clock : Int) (major : Bool) (low : Int) (l : List Ent) : List Ent × Int :=
  if (prepE s clock [low] 1 l).2 ≠ 0 then ([], (prepE s clock [low] 1 l).2) else ((keptOf s clock major low (prepE s clock [low] 1 l).1).out, 0)
def readE (s : List Fml) (clock t n : Int) (l : List Ent) : List Ent × Int :=
  if (prepE s clock [t] n l).2 ≠ 0 then ([], (prepE s clock [t] n l).2) else ((shownOf s clock t n (prepE s clock [t] n l).1).out, 0)
def visE (s : List Fml) (clock : Int) (l : List Ent) : List Ent × Int := readE s clock 1099511627776 16 l
def topE (s : List Fml) (clock : Int) (l : List Ent) : Int × Int :=
  if (prepE s clock [] 1 l).2 ≠ 0 then (0, (prepE s clock [] 1 l).2) else (topOf s clock (prepE s clock [] 1 l).1, 0)
def seqPair (e : Ent) : AV × AV := (.int .i64 e.seq, entAV e)
theorem findK_seq (acc : List Ent) (s : Int) : findK (acc.map seqPair) (.int .i64 s) = (seqOf acc s).map entAV := by
  induction acc with
  | nil => rfl
  | cons a acc ih =>
    simp only [List.map_cons, seqPair, findK, keySame, seqOf, List.find?_cons]
    by_cases h : a.seq = s
    · subst h; simp
    · have h1 : (s == a.seq) = false := by simpa using Ne.symm h
      have h2 : (a.seq == s) = false := by simpa using h
      rw [h1, h2]
      exact ih
theorem setK_seq (acc : List Ent) (e : Ent) (h : seqOf acc e.seq = none) : setK (acc.map seqPair) (.int .i64 e.seq) (entAV e) = (acc ++ [e]).map seqPair := by
  induction acc with
  | nil => rfl
  | cons a acc ih =>
    simp only [seqOf, List.find?_cons] at h
    cases h2 : (a.seq == e.seq) with
    | true => rw [h2] at h; simp at h
    | false =>
      rw [h2] at h
      have h1 : (e.seq == a.seq) = false := by rw [← h2]; exact Bool.beq_comm
      simp only [List.map_cons, seqPair, setK, keySame, h1, cond_false, List.cons_append]
      congr 1
      exact ih h
theorem ddE_length : ∀ (l acc m : List Ent), ddE acc l = some m → m.length ≤ acc.length + l.length := by
  intro l
  induction l with
  | nil => intro acc m h; simp only [ddE, Option.some.injEq] at h; subst h; simp
  | cons e l ih =>
    intro acc m h
    rw [ddE] at h
    split at h
    · split at h
      · have := ih _ _ h; simp; omega
      · simp at h
    · have := ih _ _ h; simp at this ⊢; omega
theorem ddE_sub : ∀ (l acc m : List Ent), ddE acc l = some m → ∀ x ∈ m, x ∈ acc ∨ x ∈ l := by
  intro l
  induction l with
  | nil => intro acc m h x hx; simp only [ddE, Option.some.injEq] at h; subst h; exact .inl hx
  | cons e l ih =>
    intro acc m h x hx
    rw [ddE] at h
    split at h
    · split at h
      · rcases ih _ _ h x hx with h | h
        · exact .inl h
        · exact .inr (List.mem_cons_of_mem _ h)
      · simp at h
    · rcases ih _ _ h x hx with h | h
      · rcases List.mem_append.1 h with h | h
        · exact .inl h
        · right; simp at h; simp [h]
      · exact .inr (List.mem_cons_of_mem _ h)
theorem stabL_length (l : List Ent) : (stabL ltE l).length = l.length := by
  have h1 : ∀ t, (blkL ltE l t).length = l.length := fun t => by
    induction t with
    | zero => rfl
    | succ t ih => rw [blkL, insN_length, ih]
  have h2 : ∀ (l : List Ent) bs t, (mrgL ltE l bs t).length = l.length := fun l bs t => by
    induction t with
    | zero => rfl
    | succ t ih => rw [mrgL, symL_length, ih]
  have h3 : ∀ (n c : Nat) (l : List Ent) (bs : Nat), (outL ltE n c l bs).length = l.length := fun n c => by
    induction c with
    | zero => intros; rfl
    | succ c ih =>
      intro l bs; rw [outL]; split
      · rw [ih, passL]; split <;> simp [symL_length, h2]
      · rfl
  rw [stabL, h3, insN_length, h1]
end Go.Rt
namespace Go.Rt
open Go Go.Sx
structure COK {α : Type} (c : α → α → Int) : Prop where
  anti : ∀ a b, c a b < 0 ↔ 0 < c b a
  tr : ∀ a b d, c a b ≤ 0 → c b d ≤ 0 → c a d ≤ 0
section
variable {α : Type} {c d : α → α → Int}
theorem COK.zs (h : COK c) {a b : α} (h0 : c a b = 0) : c b a = 0 := by
  have h1 := h.anti a b; have h2 := h.anti b a; omega
theorem COK.refl (h : COK c) (a : α) : c a a = 0 := by
  have h1 := h.anti a a; omega
theorem COK.neg (h : COK c) {a b : α} (h0 : c a b ≤ 0) : 0 ≤ c b a := by
  have h1 := h.anti a b; have h2 := h.anti b a; omega
theorem COK.pos (h : COK c) {a b : α} (h0 : 0 ≤ c a b) : c b a ≤ 0 := by
  have h1 := h.anti a b; have h2 := h.anti b a; omega
theorem COK.lt_le (h : COK c) {a b e : α} (h1 : c a b < 0) (h2 : c b e ≤ 0) : c a e < 0 := by
  have h3 := h.tr a b e (by omega) h2
  rcases Int.lt_or_eq_of_le h3 with h4 | h4
  · exact h4
  · have h5 := h.zs h4
    have h6 := h.tr b e a h2 (by omega)
    have := (h.anti a b).1 h1; omega
theorem COK.le_lt (h : COK c) {a b e : α} (h1 : c a b ≤ 0) (h2 : c b e < 0) : c a e < 0 := by
  have h3 := h.tr a b e h1 (by omega)
  rcases Int.lt_or_eq_of_le h3 with h4 | h4
  · exact h4
  · have h5 := h.zs h4
    have h6 := h.tr e a b (by omega) h1
    have := (h.anti b e).1 h2; omega
theorem COK.zz (h : COK c) {a b e : α} (h1 : c a b = 0) (h2 : c b e = 0) : c a e = 0 := by
  have h3 := h.tr a b e (by omega) (by omega)
  have h4 := h.tr e b a (by have := h.zs h2; omega) (by have := h.zs h1; omega)
  have := h.neg h4; omega
def thenC (c d : α → α → Int) (a b : α) : Int := if c a b ≠ 0 then c a b else d a b
theorem COK.then (hc : COK c) (hd : COK d) : COK (thenC c d) where
  anti := fun a b => by
    unfold thenC
    have h1 := hc.anti a b; have h2 := hc.anti b a; have h3 := hd.anti a b
    by_cases h : c a b = 0
    · have h' := hc.zs h
      simp [h, h', h3]
    · have h' : c b a ≠ 0 := fun e => h (hc.zs e)
      simp [h, h', h1]
  tr := fun a b e h1 h2 => by
    unfold thenC at *
    by_cases ha : c a b = 0
    · rw [if_neg (by simp [ha])] at h1
      by_cases hb : c b e = 0
      · rw [if_neg (by simp [hb])] at h2
        rw [if_neg (by simp [hc.zz ha hb])]
        exact hd.tr _ _ _ h1 h2
      · rw [if_pos hb] at h2
        have := hc.le_lt (a := a) (b := b) (e := e) (by omega) (by omega)
        rw [if_pos (by omega)]; omega
    · rw [if_pos ha] at h1
      have h2' : c b e ≤ 0 := by
        by_cases hb : c b e = 0
        · omega
        · rw [if_pos hb] at h2; exact h2
      have := hc.lt_le (a := a) (b := b) (e := e) (by omega) h2'
      rw [if_pos (by omega)]; omega
theorem COK.on {β : Type} {f : β → α} (h : COK c) : COK fun a b => c (f a) (f b) := ⟨fun a b => h.anti _ _, fun a b e => h.tr _ _ _⟩
theorem COK.flip (h : COK c) : COK fun a b => c b a := ⟨fun a b => by have h1 := h.anti b a; have h2 := h.anti a b; omega, fun a b e h1 h2 => h.tr _ _ _ h2 h1⟩
end
theorem cok_cmpI : COK cmpI where
  anti := fun a b => by unfold cmpI; repeat' split
                        all_goals omega
  tr := fun a b e => by unfold cmpI; repeat' split
                        all_goals omega
theorem cok_first (k : Int) : COK (firstI k) where
  anti := fun a b => by unfold firstI; repeat' split
                        all_goals omega
  tr := fun a b e => by unfold firstI; repeat' split
                        all_goals omega
theorem cb_cons (a b : UInt8) (as bs : List UInt8) : Lib.compareBytes (a :: as) (b :: bs) = if a < b then -1 else if b < a then 1 else Lib.compareBytes as bs := rfl
theorem cb_anti : ∀ (a b : List UInt8), Lib.compareBytes a b < 0 ↔ 0 < Lib.compareBytes b a
  | [], [] => by decide
  | [], _ :: _ => by simp [Lib.compareBytes]
  | _ :: _, [] => by simp [Lib.compareBytes]
  | a :: as, b :: bs => by
    rw [cb_cons, cb_cons]
    have := cb_anti as bs
    by_cases h1 : a < b
    · have h2 : ¬ b < a := by simp only [UInt8.lt_iff_toNat_lt] at *; omega
      simp [h1, h2]
    · by_cases h2 : b < a
      · simp [h1, h2]
      · simp [h1, h2, this]
theorem cb_tr : ∀ (a b c : List UInt8), Lib.compareBytes a b ≤ 0 → Lib.compareBytes b c ≤ 0 → Lib.compareBytes a c ≤ 0
  | [], _, [] => fun _ _ => by decide
  | [], _, _ :: _ => fun _ _ => by simp [Lib.compareBytes]
  | _ :: _, [], _ => fun h => by simp [Lib.compareBytes] at h
  | _ :: _, _ :: _, [] => fun _ h => by simp [Lib.compareBytes] at h
  | a :: as, b :: bs, c :: cs => fun h1 h2 => by
    rw [cb_cons] at *
    have ih := cb_tr as bs cs
    simp only [UInt8.lt_iff_toNat_lt] at *
    repeat' split at h1
    all_goals repeat' split at h2
    all_goals repeat' split
    all_goals first | omega | exact ih h1 h2 | skip
theorem cok_bytes : COK Lib.compareBytes := ⟨cb_anti, cb_tr⟩
theorem cb_zero : ∀ (a b : List UInt8), Lib.compareBytes a b = 0 ↔ a = b
  | [], [] => by decide
  | [], _ :: _ => by simp [Lib.compareBytes]
  | _ :: _, [] => by simp [Lib.compareBytes]
  | a :: as, b :: bs => by
    rw [cb_cons]
    have := cb_zero as bs
    by_cases h1 : a < b
    · have h2 : a ≠ b := fun e => by subst e; simp only [UInt8.lt_iff_toNat_lt] at h1; omega
      simp [h1, h2]
    · by_cases h2 : b < a
      · have h3 : a ≠ b := fun e => by subst e; simp only [UInt8.lt_iff_toNat_lt] at h2; omega
        simp [h1, h2, h3]
      · have h3 : a = b := by
          apply UInt8.toNat_inj.1; simp only [UInt8.lt_iff_toNat_lt] at h1 h2; omega
        simp [h1, h2, h3, this]
theorem cmpI_zero (x y : Int) : cmpI x y = 0 ↔ x = y := by unfold cmpI; repeat' split
                                                           all_goals omega
theorem cok_step (i : Nat) : COK (stepE i) := by
  match i with
  | 0 => exact cok_bytes.on (f := Ent.row)
  | 1 => exact cok_cmpI.on (f := Ent.fam)
  | 2 => exact cok_first 5
  | 3 => exact cok_bytes.on (f := Ent.qual)
  | 4 => exact cok_first 4
  | 5 => exact (cok_cmpI.on (f := Ent.ts)).flip
  | 6 => exact (cok_cmpI.on (f := Ent.seq)).flip
  | 7 => exact cok_cmpI.on (f := Ent.kind)
  | _ + 8 => exact ⟨fun a b => by show (0 : Int) < 0 ↔ (0 : Int) < 0; omega, fun a b e _ _ => Int.le_refl _⟩
theorem cok_from : ∀ k, COK fun a b => compFrom a b k
  | 0 => ⟨fun a b => by show (0 : Int) < 0 ↔ (0 : Int) < 0; omega, fun a b e _ _ => Int.le_refl _⟩
  | k + 1 => (cok_step (7 - k)).then (cok_from k)
theorem cok_comp : COK compE := cok_from 8
theorem ord_ltE : Ord ltE where
  tr := fun x y z h1 h2 => by
    simp only [ltE, decide_eq_false_iff_not, Int.not_lt] at *
    exact cok_comp.neg (cok_comp.tr _ _ _ (cok_comp.pos h1) (cok_comp.pos h2))
  asym := fun x y h => by
    simp only [ltE, decide_eq_false_iff_not, decide_eq_true_eq, Int.not_lt] at *
    exact cok_comp.neg (by omega)
theorem stabL_perm (l : List Ent) : (stabL ltE l).Perm l := (stabL_ok ord_ltE l).2
theorem stabL_srt (l : List Ent) : Srt ltE (stabL ltE l) := (stabL_ok ord_ltE l).1
theorem stabL_mem (l : List Ent) (e : Ent) : e ∈ stabL ltE l ↔ e ∈ l := (stabL_perm l).mem_iff
theorem comp_zero_seq {a b : Ent} (h : compE a b = 0) : a.seq = b.seq := by
  rw [show compE a b = thenC (stepE 0) (thenC (stepE 1) (thenC (stepE 2) (thenC (stepE 3) (thenC (stepE 4) (thenC (stepE 5) (thenC (stepE 6) (thenC (stepE 7) fun _ _ => 0))))))) a b from rfl] at h
  simp only [thenC] at h
  by_cases h0 : stepE 0 a b = 0
  · by_cases h1 : stepE 1 a b = 0
    · by_cases h2 : stepE 2 a b = 0
      · by_cases h3 : stepE 3 a b = 0
        · by_cases h4 : stepE 4 a b = 0
          · by_cases h5 : stepE 5 a b = 0
            · by_cases h6 : stepE 6 a b = 0
              · exact ((cmpI_zero _ _).1 h6).symm
              · simp [h0, h1, h2, h3, h4, h5, h6] at h
            · simp [h0, h1, h2, h3, h4, h5] at h
          · simp [h0, h1, h2, h3, h4] at h
        · simp [h0, h1, h2, h3] at h
      · simp [h0, h1, h2] at h
    · simp [h0, h1] at h
  · simp [h0] at h
theorem seqOf_some {acc : List Ent} {k : Int} {x : Ent} (h : seqOf acc k = some x) : x ∈ acc ∧ x.seq = k := by
  unfold seqOf at h
  exact ⟨List.mem_of_find?_eq_some h, by simpa using List.find?_some h⟩
theorem seqOf_none {acc : List Ent} {k : Int} (h : seqOf acc k = none) : ∀ x ∈ acc, x.seq ≠ k := by
  unfold seqOf at h
  intro x hx
  have := List.find?_eq_none.1 h x hx
  simpa using this
theorem srt_unique {l m : List Ent} (hl : Srt ltE l) (hm : Srt ltE m) (hp : l.Perm m) (hs : (l.map (·.seq)).Nodup) : l = m := by
  refine List.Perm.eq_of_pairwise (le := fun x y => ltE y x = false) (fun a b ha hb h1 h2 => ?_) hl hm hp
  have hb : b ∈ l := hp.mem_iff.2 hb
  have hz : compE a b = 0 := by
    simp only [ltE, decide_eq_false_iff_not, Int.not_lt] at h1 h2
    have := cok_comp.pos h1
    omega
  have hseq := comp_zero_seq hz
  clear h1 h2 hz hl hm hp
  induction l with
  | nil => cases ha
  | cons x l ih =>
    simp only [List.map_cons, List.nodup_cons, List.mem_map] at hs
    rcases List.mem_cons.1 ha with e1 | ha'
    · rcases List.mem_cons.1 hb with e2 | hb'
      · rw [e1, e2]
      · exact absurd ⟨b, hb', by rw [← e1]; exact hseq.symm⟩ hs.1
    · rcases List.mem_cons.1 hb with e2 | hb'
      · exact absurd ⟨a, ha', by rw [← e2]; exact hseq⟩ hs.1
      · exact ih hs.2 ha' hb'
end Go.Rt
namespace Go.Rt
open Go Go.Sx
theorem kls0_bytes : ∀ (b : List UInt8) (n : Nat), AV.kls n (b.map byteAV)
  | [], _ => trivial
  | _ :: b, n => ⟨trivial, kls0_bytes b n⟩
theorem frzL_kl {H : Heap} {n : Nat} : ∀ (l : List AV), AV.kls n l → FrzL H n l l
  | [], _ => .nil
  | _ :: l, h => .cons (.kl h.1) (frzL_kl l h.2)
structure Lp where
  k : Nat
  ver : Nat
  els : List AV
instance : Inhabited Lp := ⟨⟨0, 0, []⟩⟩
structure Lp.here (H : Heap) (p : Lp) (b : List UInt8) : Prop where
  at' : H p.k = some (.arr p.ver 1 p.els)
  len : b.length ≤ p.els.length
  tk : p.els.take b.length = b.map byteAV
structure Lp.ok (H : Heap) (n : Nat) (p : Lp) (b : List UInt8) : Prop extends Lp.here H p b where
  lt : p.k < n
theorem Lp.here.mono {H H' : Heap} {p : Lp} {b : List UInt8} (h : p.here H b) (hH : H' p.k = H p.k) : p.here H' b := ⟨hH.trans h.at', h.len, h.tk⟩
def Lp.av (p : Lp) (len : Nat) : AV := .osl p.k p.ver 0 len
attribute [go_sem] Lp.av
theorem Lp.ok.mono {H H' : Heap} {n n' : Nat} {p : Lp} {b : List UInt8} (h : p.ok H n b) (hH : ∀ k, k < n → H' k = H k) (hn : n ≤ n') : p.ok H' n' b :=
  ⟨h.tohere.mono (hH _ h.lt), Nat.lt_of_lt_of_le h.lt hn⟩
theorem Lp.ok.frz {H : Heap} {n : Nat} {p : Lp} {b : List UInt8} (h : p.ok H n b) : Frz H 0 (p.av b.length) (bys b) :=
  .osl h.at' (Nat.zero_le _) (by have := h.len; omega) (by rw [List.drop_zero, h.tk]; exact frzL_kl _ (kls0_bytes b 0))
structure LEnt where
  e : Ent
  r : Lp
  q : Lp
  v : Lp
instance : Inhabited LEnt := ⟨⟨default, default, default, default⟩⟩
def lentAV (x : LEnt) : AV := .agg [x.r.av x.e.row.length, .int .i64 x.e.fam, x.q.av x.e.qual.length, .int .i64 x.e.ts, .int .i64 x.e.seq, .int .i64 x.e.kind, x.v.av x.e.value.length]
attribute [go_sem] lentAV
structure LEnt.ok (H : Heap) (n : Nat) (x : LEnt) : Prop where
  r : x.r.ok H n x.e.row
  q : x.q.ok H n x.e.qual
  v : x.v.ok H n x.e.value
theorem LEnt.ok.mono {H H' : Heap} {n n' : Nat} {x : LEnt} (h : x.ok H n) (hH : ∀ k, k < n → H' k = H k) (hn : n ≤ n') : x.ok H' n' := ⟨h.r.mono hH hn, h.q.mono hH hn, h.v.mono hH hn⟩
theorem LEnt.ok.frz {H : Heap} {n : Nat} {x : LEnt} (h : x.ok H n) : Frz H 0 (lentAV x) (entAV x.e) :=
  .agg (.cons h.r.frz (.cons (.kl trivial) (.cons h.q.frz (.cons (.kl trivial) (.cons (.kl trivial) (.cons (.kl trivial) (.cons h.v.frz .nil)))))))
theorem lentAV_sz (x : LEnt) : (lentAV x).sz = 7 := by simp [lentAV, AV.sz, AV.szs, Lp.av]
theorem lents_frz {H : Heap} {n : Nat} : ∀ (l : List LEnt), (∀ x ∈ l, x.ok H n) → FrzL H 0 (l.map lentAV) ((l.map (·.e)).map entAV)
  | [], _ => .nil
  | x :: l, h => .cons (h x (by simp)).frz (lents_frz l fun y hy => h y (by simp [hy]))
theorem lentAV_memOK (x : LEnt) : (lentAV x).memOK = true := by simp [lentAV, Lp.av, AV.memOK]
structure LList (H : Heap) (n : Nat) (p : Lp) (l : List LEnt) : Prop where
  lt : p.k < n
  at' : H p.k = some (.arr p.ver 7 p.els)
  len : l.length ≤ p.els.length
  tk : p.els.take l.length = l.map lentAV
  ok : ∀ x ∈ l, x.ok H n
theorem LList.frz {H : Heap} {n : Nat} {p : Lp} {l : List LEnt} (h : LList H n p l) : Frz H 0 (p.av l.length) (entsAV (l.map (·.e))) :=
  .osl h.at' (Nat.zero_le _) (by have := h.len; omega) (by rw [List.drop_zero, h.tk]; exact lents_frz l h.ok)
theorem LList.nth {H : Heap} {n : Nat} {p : Lp} {l : List LEnt} (h : LList H n p l) {i : Nat} (hi : i < l.length) : nth p.els i = lentAV (l.getD i default) := by
  rw [← nth_map lentAV l i hi, ← h.tk]
  simp [Sx.nth, List.getD, hi]
structure Lp.mine (H : Heap) (lo hi : Nat) (p : Lp) (b : List UInt8) : Prop where
  at' : H p.k = some (.arr p.ver 1 p.els)
  els : p.els = b.map byteAV
  lo : lo ≤ p.k
  hi : p.k < hi
theorem Lp.mine.ok {H : Heap} {lo hi : Nat} {p : Lp} {b : List UInt8} (h : p.mine H lo hi b) : p.ok H hi b := ⟨⟨h.at', by rw [h.els]; simp, by rw [h.els, List.take_of_length_le (by simp)]⟩, h.hi⟩
theorem Lp.mine.mono {H H' : Heap} {lo hi hi' : Nat} {p : Lp} {b : List UInt8} (h : p.mine H lo hi b) (hH : ∀ k, lo ≤ k → k < hi → H' k = H k) (hh : hi ≤ hi') : p.mine H' lo hi' b := ⟨(hH _ h.lo h.hi).trans h.at', h.els, h.lo, Nat.lt_of_lt_of_le h.hi hh⟩
theorem Lp.mine.low {H : Heap} {lo lo' hi : Nat} {p : Lp} {b : List UInt8} (h : p.mine H lo hi b) (hl : lo' ≤ lo) : p.mine H lo' hi b := ⟨h.at', h.els, Nat.le_trans hl h.lo, h.hi⟩
theorem Lp.mine.frz {H : Heap} {lo hi n : Nat} {p : Lp} {b : List UInt8} (h : p.mine H lo hi b) (hn : n ≤ lo) : Frz H n (p.av b.length) (bys b) :=
  .osl h.at' (Nat.le_trans hn h.lo) (by rw [h.els]; simp) (by rw [List.drop_zero, h.els, List.take_of_length_le (by simp)]; exact frzL_kl _ (kls0_bytes b n))
structure LEnt.mine (H : Heap) (lo hi : Nat) (x : LEnt) : Prop where
  r : x.r.mine H lo hi x.e.row
  q : x.q.mine H lo hi x.e.qual
  v : x.v.mine H lo hi x.e.value
  rq : x.r.k < x.q.k
  qv : x.q.k < x.v.k
theorem LEnt.mine.ok {H : Heap} {lo hi : Nat} {x : LEnt} (h : x.mine H lo hi) : x.ok H hi := ⟨h.r.ok, h.q.ok, h.v.ok⟩
theorem LEnt.mine.mono {H H' : Heap} {lo hi hi' : Nat} {x : LEnt} (h : x.mine H lo hi) (hH : ∀ k, lo ≤ k → k < hi → H' k = H k) (hh : hi ≤ hi') : x.mine H' lo hi' := ⟨h.r.mono hH hh, h.q.mono hH hh, h.v.mono hH hh, h.rq, h.qv⟩
theorem LEnt.mine.low {H : Heap} {lo lo' hi : Nat} {x : LEnt} (h : x.mine H lo hi) (hl : lo' ≤ lo) : x.mine H lo' hi := ⟨h.r.low hl, h.q.low hl, h.v.low hl, h.rq, h.qv⟩
theorem LEnt.mine.frz {H : Heap} {lo hi n : Nat} {x : LEnt} (h : x.mine H lo hi) (hn : n ≤ lo) : Frz H n (lentAV x) (entAV x.e) :=
  .agg (.cons (h.r.frz hn) (.cons (.kl trivial) (.cons (h.q.frz hn) (.cons (.kl trivial) (.cons (.kl trivial) (.cons (.kl trivial) (.cons (h.v.frz hn) .nil)))))))
def LEnt.ks (x : LEnt) : List Nat := [x.r.k, x.q.k, x.v.k]
theorem LEnt.mine.in' {H : Heap} {lo hi : Nat} {x : LEnt} (h : x.mine H lo hi) {k : Nat} (hk : k ∈ x.ks) : lo ≤ k ∧ k < hi := by
  simp only [LEnt.ks, List.mem_cons, List.not_mem_nil, or_false] at hk
  rcases hk with rfl | rfl | rfl
  · exact ⟨h.r.lo, h.r.hi⟩
  · exact ⟨h.q.lo, h.q.hi⟩
  · exact ⟨h.v.lo, h.v.hi⟩
theorem LEnt.mine.nodup {H : Heap} {lo hi : Nat} {x : LEnt} (h : x.mine H lo hi) : x.ks.Nodup := by
  have h1 := h.rq; have h2 := h.qv
  simp [LEnt.ks]; omega
structure MineL (H : Heap) (lo hi : Nat) (xs : List LEnt) : Prop where
  all : ∀ x ∈ xs, x.mine H lo hi
  nd : (xs.flatMap LEnt.ks).Nodup
theorem MineL.nil (H : Heap) (lo hi : Nat) : MineL H lo hi [] := ⟨fun _ h => by (cases h), .nil⟩
theorem MineL.mono {H H' : Heap} {lo hi hi' : Nat} {xs : List LEnt} (h : MineL H lo hi xs) (hH : ∀ k, lo ≤ k → k < hi → H' k = H k) (hh : hi ≤ hi') : MineL H' lo hi' xs := ⟨fun x hx => (h.all x hx).mono hH hh, h.nd⟩
theorem MineL.low {H : Heap} {lo lo' hi : Nat} {xs : List LEnt} (h : MineL H lo hi xs) (hl : lo' ≤ lo) : MineL H lo' hi xs := ⟨fun x hx => (h.all x hx).low hl, h.nd⟩
theorem MineL.in' {H : Heap} {lo hi : Nat} {xs : List LEnt} (h : MineL H lo hi xs) {k : Nat} (hk : k ∈ xs.flatMap LEnt.ks) : lo ≤ k ∧ k < hi := by
  obtain ⟨x, hx, hk⟩ := List.mem_flatMap.1 hk
  exact (h.all x hx).in' hk
theorem MineL.perm {H : Heap} {lo hi : Nat} {xs ys : List LEnt} (h : MineL H lo hi xs) (hp : ys.Perm xs) : MineL H lo hi ys :=
  ⟨fun x hx => h.all x (hp.mem_iff.1 hx), (hp.flatMap_right _).nodup_iff.2 h.nd⟩
theorem MineL.snoc {H : Heap} {lo mi hi : Nat} {xs : List LEnt} {x : LEnt} (h : MineL H lo mi xs) (hx : x.mine H mi hi) (hl : lo ≤ mi) (hh : mi ≤ hi) : MineL H lo hi (xs ++ [x]) := by
  refine ⟨fun y hy => ?_, ?_⟩
  · rcases List.mem_append.1 hy with h9 | h9
    · exact (h.all y h9).mono (fun _ _ _ => rfl) hh
    · rw [List.mem_singleton.1 h9]; exact hx.low hl
  · rw [List.flatMap_append, List.nodup_append]
    refine ⟨h.nd, by simpa using hx.nodup, fun a ha b hb => ?_⟩
    have h1 := (h.in' ha).2
    have h2 := (hx.in' (by simpa using hb)).1
    omega
theorem MineL.frz {H : Heap} {lo hi n : Nat} (hn : n ≤ lo) : ∀ {xs : List LEnt}, MineL H lo hi xs → FrzL H n (xs.map lentAV) ((xs.map (·.e)).map entAV)
  | [], _ => .nil
  | x :: xs, h => .cons ((h.all x (by simp)).frz hn) (MineL.frz hn ⟨fun y hy => h.all y (by simp [hy]), by have := h.nd; rw [List.flatMap_cons, List.nodup_append] at this; exact this.2.1⟩)
theorem MineL.ok {H : Heap} {lo hi : Nat} {xs : List LEnt} (h : MineL H lo hi xs) : ∀ x ∈ xs, x.ok H hi := fun x hx => (h.all x hx).ok
structure LEnt.there (H : Heap) (k : Nat) (x : LEnt) : Prop where
  r : x.r.here H x.e.row
  q : x.q.here H x.e.qual
  v : x.v.here H x.e.value
  ne : k ∉ x.ks
theorem LEnt.there.mono {H H' : Heap} {k : Nat} {x : LEnt} (h : x.there H k) (hj : ∀ j, j ≠ k → H' j = H j) : x.there H' k := by
  have h1 := h.ne
  simp only [LEnt.ks, List.mem_cons, List.not_mem_nil, or_false, not_or] at h1
  exact ⟨h.r.mono (hj _ (Ne.symm h1.1)), h.q.mono (hj _ (Ne.symm h1.2.1)), h.v.mono (hj _ (Ne.symm h1.2.2)), h.ne⟩
theorem Lp.here.frz {H : Heap} {p : Lp} {b : List UInt8} (h : p.here H b) : Frz H 0 (p.av b.length) (bys b) :=
  .osl h.at' (Nat.zero_le _) (by have := h.len; omega) (by rw [List.drop_zero, h.tk]; exact frzL_kl _ (kls0_bytes b 0))
theorem LEnt.there.frz {H : Heap} {k : Nat} {x : LEnt} (h : x.there H k) : Frz H 0 (lentAV x) (entAV x.e) :=
  .agg (.cons h.r.frz (.cons (.kl trivial) (.cons h.q.frz (.cons (.kl trivial) (.cons (.kl trivial) (.cons (.kl trivial) (.cons h.v.frz .nil)))))))
structure OwnA (H : Heap) (lo hi : Nat) (ko ver : Nat) (xs : List LEnt) : Prop where
  at' : H ko = some (.arr ver 7 (xs.map lentAV))
  ge : lo ≤ ko
  lt : ko < hi
  mine : MineL H lo hi xs
  ne : ko ∉ xs.flatMap LEnt.ks
theorem OwnA.low {H : Heap} {lo lo' hi ko ver : Nat} {xs : List LEnt} (h : OwnA H lo hi ko ver xs) (hl : lo' ≤ lo) : OwnA H lo' hi ko ver xs := ⟨h.at', Nat.le_trans hl h.ge, h.lt, h.mine.low hl, h.ne⟩
theorem OwnA.frz {H : Heap} {lo hi n ko ver : Nat} {xs : List LEnt} (h : OwnA H lo hi ko ver xs) (hn : n ≤ lo) : Frz H n (.osl ko ver 0 xs.length) (entsAV (xs.map (·.e))) :=
  .osl h.at' (Nat.le_trans hn h.ge) (by simp) (by rw [List.drop_zero, List.take_of_length_le (by simp)]; exact h.mine.frz hn)
def AnsU (H : Heap) (lo hi : Nat) (a : AV) (es : List Ent) : Prop := (a = .nilsl ∧ es = []) ∨ ∃ ko ver xs, a = .osl ko ver 0 xs.length ∧ xs.map (·.e) = es ∧ OwnA H lo hi ko ver xs
theorem AnsU.nil (H : Heap) (lo hi : Nat) : AnsU H lo hi .nilsl [] := .inl ⟨rfl, rfl⟩
theorem AnsU.low {H : Heap} {lo lo' hi : Nat} {a : AV} {es : List Ent} (h : AnsU H lo hi a es) (hl : lo' ≤ lo) : AnsU H lo' hi a es := by
  rcases h with h | ⟨ko, ver, xs, e, h1, h2⟩
  · exact .inl h
  · exact .inr ⟨ko, ver, xs, e, h1, h2.low hl⟩
theorem AnsU.frz {H : Heap} {lo hi n : Nat} {a : AV} {es : List Ent} (h : AnsU H lo hi a es) (hn : n ≤ lo) : Frz H n a (entsAV es) := by
  rcases h with ⟨rfl, rfl⟩ | ⟨ko, ver, xs, rfl, h1, h2⟩
  · exact .nilsl
  · rw [← h1]; exact h2.frz hn
theorem AnsU.strip {H : Heap} {lo hi : Nat} {a : AV} {es : List Ent} (h : AnsU H lo hi a es) : Sx.strip true a = a := by
  rcases h with ⟨rfl, _⟩ | ⟨_, _, _, rfl, _⟩ <;> rfl
def AnsK (n : Nat) (H : Heap) (es : List Ent) (err : Int) (res : ARes) (H' : Heap) (n' : Nat) : Prop := ∃ a, res = .val (.tup [a, .int .i64 err]) ∧ AnsU H' n n' a es ∧ n ≤ n' ∧ ∀ k, k < n → H' k = H k
theorem AnsK.fin {P : Program} {f : FuncId} {args : List AV} {H : Heap} {n : Nat} {es : List Ent} {err : Int} (h : ACalls P f args H n (AnsK n H es err)) : Ret P f args H n (.tup [entsAV es, .int .i64 err]) H n :=
  Ret.fin (h.mono fun res H1 n1 ⟨a, hr, ha, _, hlow⟩ => ⟨_, hr, hlow, .tup (.cons (ha.frz (Nat.le_refl _)) (.cons (.kl trivial) .nil))⟩)
end Go.Rt
namespace Go.Rt
open Go Go.Sx Classical
def famOf (a b : Ent) : Prop := a.fam = b.fam ∧ a.row = b.row
def mates (a b : Ent) : Prop := famOf a b ∧ a.qual = b.qual
def ver (x : Ent) : Prop := x.kind ≠ 4 ∧ x.kind ≠ 5
def over (x e : Ent) : Prop := (x.kind = 5 ∧ famOf x e) ∨ (x.kind = 4 ∧ mates x e)
def grp (x e : Ent) : Prop := ver x ∧ ver e ∧ mates x e ∧ x.ts = e.ts
theorem famOf.symm {a b : Ent} (h : famOf a b) : famOf b a := ⟨h.1.symm, h.2.symm⟩
theorem famOf.trans {a b c : Ent} (h : famOf a b) (h' : famOf b c) : famOf a c := ⟨h.1.trans h'.1, h.2.trans h'.2⟩
theorem mates.symm {a b : Ent} (h : mates a b) : mates b a := ⟨h.1.symm, h.2.symm⟩
theorem mates.trans {a b c : Ent} (h : mates a b) (h' : mates b c) : mates a c := ⟨h.1.trans h'.1, h.2.trans h'.2⟩
theorem famOf.refl (a : Ent) : famOf a a := ⟨rfl, rfl⟩
theorem mates.refl (a : Ent) : mates a a := ⟨⟨rfl, rfl⟩, rfl⟩
theorem grp.symm {a b : Ent} (h : grp a b) : grp b a := ⟨h.2.1, h.1, h.2.2.1.symm, h.2.2.2.symm⟩
theorem grp.trans {a b c : Ent} (h : grp a b) (h' : grp b c) : grp a c := ⟨h.1, h'.2.1, h.2.2.1.trans h'.2.2.1, h.2.2.2.trans h'.2.2.2⟩
theorem grp.refl {a : Ent} (h : ver a) : grp a a := ⟨h, h, .refl a, rfl⟩
theorem compE_eq (a b : Ent) : compE a b = thenC (stepE 0) (thenC (stepE 1) (thenC (stepE 2) (thenC (stepE 3) (thenC (stepE 4) (thenC (stepE 5) (thenC (stepE 6) (thenC (stepE 7) fun _ _ => 0))))))) a b := rfl
def rest2 := thenC (stepE 2) (thenC (stepE 3) (thenC (stepE 4) (thenC (stepE 5) (thenC (stepE 6) (thenC (stepE 7) fun _ _ => 0)))))
def pre2 := thenC (stepE 0) (stepE 1)
theorem compE_2 (a b : Ent) : compE a b = thenC pre2 rest2 a b := by
  rw [compE_eq]; simp only [thenC, pre2, rest2]
  by_cases h0 : stepE 0 a b = 0
  · by_cases h1 : stepE 1 a b = 0 <;> simp [h0, h1]
  · simp [h0]
theorem cok_pre2 : COK pre2 := (cok_step 0).then (cok_step 1)
theorem pre2_zero (a b : Ent) : pre2 a b = 0 ↔ famOf a b := by
  unfold pre2 thenC famOf
  have h0 : stepE 0 a b = 0 ↔ a.row = b.row := cb_zero _ _
  have h1 : stepE 1 a b = 0 ↔ a.fam = b.fam := cmpI_zero _ _
  by_cases h : stepE 0 a b = 0
  · simp [h, h1, h0.1 h]
  · have : a.row ≠ b.row := fun e => h (h0.2 e)
    simp [h, this]
theorem convex {c d : Ent → Ent → Int} (hc : COK c) {a b e : Ent} (h1 : thenC c d a b < 0) (h2 : thenC c d b e < 0) (h : c a e = 0) : c a b = 0 := by
  have g1 : c a b ≤ 0 := by unfold thenC at h1; by_cases h0 : c a b = 0; omega; rw [if_pos h0] at h1; omega
  have g2 : c b e ≤ 0 := by unfold thenC at h2; by_cases h0 : c b e = 0; omega; rw [if_pos h0] at h2; omega
  have g3 := hc.tr b e a g2 (by have := hc.zs h; omega)
  have := hc.neg g3
  omega
theorem famOf_between {a b e : Ent} (h1 : compE a b < 0) (h2 : compE b e < 0) (h : famOf a e) : famOf a b := by
  rw [compE_2] at h1 h2
  exact (pre2_zero _ _).1 (convex cok_pre2 h1 h2 ((pre2_zero _ _).2 h))
def rest4 := thenC (stepE 4) (thenC (stepE 5) (thenC (stepE 6) (thenC (stepE 7) fun _ _ => 0)))
def pre4 := thenC pre2 (thenC (stepE 2) (stepE 3))
theorem compE_4 (a b : Ent) : compE a b = thenC pre4 rest4 a b := by
  rw [compE_2]; simp only [thenC, pre4, rest2, rest4]
  by_cases h0 : pre2 a b = 0
  · by_cases h1 : stepE 2 a b = 0
    · by_cases h2 : stepE 3 a b = 0 <;> simp [h0, h1, h2]
    · simp [h0, h1]
  · simp [h0]
theorem cok_pre4 : COK pre4 := cok_pre2.then ((cok_step 2).then (cok_step 3))
theorem step2_zero {a b : Ent} : stepE 2 a b = 0 ↔ (a.kind = 5 ↔ b.kind = 5) := by
  show firstI 5 a b = 0 ↔ _
  unfold firstI
  by_cases h1 : a.kind = 5 <;> by_cases h2 : b.kind = 5 <;> simp [h1, h2]
theorem step4_zero {a b : Ent} : stepE 4 a b = 0 ↔ (a.kind = 4 ↔ b.kind = 4) := by
  show firstI 4 a b = 0 ↔ _
  unfold firstI
  by_cases h1 : a.kind = 4 <;> by_cases h2 : b.kind = 4 <;> simp [h1, h2]
theorem pre4_zero (a b : Ent) : pre4 a b = 0 ↔ (mates a b ∧ (a.kind = 5 ↔ b.kind = 5)) := by
  have h3 : stepE 3 a b = 0 ↔ a.qual = b.qual := cb_zero _ _
  have e : pre4 a b = if pre2 a b ≠ 0 then pre2 a b else if stepE 2 a b ≠ 0 then stepE 2 a b else stepE 3 a b := rfl
  rw [e]
  by_cases h0 : pre2 a b = 0
  · have hf := (pre2_zero a b).1 h0
    by_cases h2 : stepE 2 a b = 0
    · simp only [h0, h2, ne_eq, not_true_eq_false, if_false, h3]
      exact ⟨fun h => ⟨⟨hf, h⟩, step2_zero.1 h2⟩, fun h => h.1.2⟩
    · simp only [h0, ne_eq, not_true_eq_false, if_false, h2, not_false_eq_true, if_true, false_iff]
      exact fun h => h2 (step2_zero.2 h.2)
  · simp only [h0, ne_eq, not_false_eq_true, if_true, false_iff]
    exact fun h => h0 ((pre2_zero a b).2 h.1.1)
theorem mates_between {a b e : Ent} (h1 : compE a b < 0) (h2 : compE b e < 0) (h : mates a e) (hk : a.kind = 5 ↔ e.kind = 5) : mates a b ∧ (a.kind = 5 ↔ b.kind = 5) := by
  rw [compE_4] at h1 h2
  exact (pre4_zero _ _).1 (convex cok_pre4 h1 h2 ((pre4_zero _ _).2 ⟨h, hk⟩))
theorem fam_first {a b : Ent} (h : compE a b < 0) (hf : famOf a b) (hb : b.kind = 5) : a.kind = 5 := by
  have h0 := (pre2_zero a b).2 hf
  rw [compE_2] at h
  by_cases ha : a.kind = 5
  · exact ha
  · exfalso
    have h2 : stepE 2 a b = 1 := by show firstI 5 a b = 1; simp [firstI, ha, hb]
    simp [thenC, h0, rest2, h2] at h
theorem col_first {a b : Ent} (h : compE a b < 0) (hm : mates a b) (ha5 : a.kind ≠ 5) (hb : b.kind = 4) : a.kind = 4 := by
  have h0 := (pre4_zero a b).2 ⟨hm, by omega⟩
  rw [compE_4] at h
  by_cases ha : a.kind = 4
  · exact ha
  · exfalso
    have h2 : stepE 4 a b = 1 := by show firstI 4 a b = 1; simp [firstI, ha, hb]
    simp [thenC, h0, rest4, h2] at h
theorem newer_first {a b : Ent} (h : compE a b < 0) (hm : mates a b) (h5 : a.kind = 5 ↔ b.kind = 5) (h4 : a.kind = 4 ↔ b.kind = 4) : b.ts < a.ts ∨ (b.ts = a.ts ∧ b.seq ≤ a.seq) := by
  have h0 := (pre4_zero a b).2 ⟨hm, h5⟩
  have h6 := step4_zero.2 h4
  rw [compE_4] at h
  simp only [thenC, h0, rest4, h6, ne_eq, not_true_eq_false, if_false] at h
  have e5 : stepE 5 a b = cmpI b.ts a.ts := rfl
  have e6 : stepE 6 a b = cmpI b.seq a.seq := rfl
  rw [e5, e6] at h
  unfold cmpI at h
  by_cases h1 : b.ts < a.ts
  · exact .inl h1
  · by_cases h2 : a.ts < b.ts
    · simp [h1, h2] at h
    · right
      refine ⟨by omega, ?_⟩
      have e : b.ts = a.ts := by omega
      by_cases h3 : b.seq < a.seq
      · omega
      · by_cases h4 : a.seq < b.seq
        · simp [e, h3, h4] at h
        · omega
end Go.Rt
namespace Go.Rt
open Go Go.Sx Classical
theorem sameFam_iff (a b : Ent) : sameFamE a b = true ↔ famOf a b := by simp [sameFamE, famOf]
theorem sameCol_iff (a b : Ent) : sameColE a b = true ↔ mates a b ∧ a.kind ≠ 5 ∧ b.kind ≠ 5 := by
  unfold sameColE
  simp only [Bool.and_eq_true, sameFam_iff, bne_iff_ne, ne_eq, beq_iff_eq, mates]
  constructor
  · rintro ⟨⟨⟨h1, h2⟩, h3⟩, h4⟩; exact ⟨⟨h1, h4⟩, h2, h3⟩
  · rintro ⟨⟨h1, h4⟩, h2, h3⟩; exact ⟨⟨⟨h1, h2⟩, h3⟩, h4⟩
structure EGood (e : Ent) : Prop where
  ts : 1 ≤ e.ts
  qual : e.kind = 5 → e.qual = []
structure InOrder (m : List Ent) : Prop where
  srt : m.Pairwise fun a b => compE a b < 0
  seq : m.Pairwise fun a b => a.seq ≠ b.seq
  good : ∀ e ∈ m, EGood e
section
variable (s : List Fml) (clock : Int) (m : List Ent)
def masked (e : Ent) : Prop := ∃ x ∈ m, over x e ∧ e.ts ≤ x.ts
def expd (e : Ent) : Prop := 0 < (famAt s e.fam).ttl ∧ e.ts + (famAt s e.fam).ttl ≤ clock
def isOut (e : Ent) : Prop := masked m e ∨ expd s clock e
def first (e : Ent) : Prop := ver e ∧ ∀ x ∈ m, grp x e → x.seq ≤ e.seq
def lone (e : Ent) : Prop := ∀ x ∈ m, grp x e → x.kind = 3
def counted (e : Ent) : Prop := first m e ∧ ¬ isOut s clock m e ∧ ¬ lone m e
noncomputable def above (e : Ent) : Nat := (m.filter fun x => decide (counted s clock m x ∧ mates x e ∧ e.ts < x.ts)).length
noncomputable def decD (e : Ent) : Dec := ⟨e, decide (e.kind = 2 ∨ e.kind = 3 ∧ ¬ lone m e), decide (lone m e), decide (masked m e), decide (expd s clock e), if counted s clock m e then (above s clock m e : Int) + 1 else 0⟩
def top5 (e : Ent) : Prop := ∀ x ∈ m, x.kind = 5 → famOf x e → x.ts < e.ts ∨ x.ts = e.ts ∧ x.seq ≤ e.seq
def top4 (e : Ent) : Prop := (∀ x ∈ m, x.kind = 4 → mates x e → x.ts < e.ts ∨ x.ts = e.ts ∧ x.seq ≤ e.seq) ∧ ∀ x ∈ m, x.kind = 5 → famOf x e → x.ts < e.ts
noncomputable def evD (e : Ent) : List Ev :=
  if e.kind = 5 then [.m e (decide (top5 m e))] else if e.kind = 4 then [.m e (decide (top4 m e))] else if first m e then [.g (decD s clock m e)] else []
end
def notO : Ev → Bool
  | .o => false
  | _ => true
noncomputable def pend (s : List Fml) (clock : Int) (m : List Ent) (w : Wlk) : List Ev := if w.opn = true then [.g (decD s clock m w.ge)] else []
structure Inv (s : List Fml) (clock : Int) (m p : List Ent) (w : Wlk) (x : Ent) : Prop where
  hs : w.s = s
  hc : w.clock = clock
  any : w.any = true
  last : w.last = x
  xp : x ∈ p
  mx : ∀ y ∈ p, y = x ∨ compE y x < 0
  fm : ∀ y ∈ p, y.kind = 5 → famOf y x → y.ts ≤ w.famMask
  fm0 : w.famMask = 0 ∨ ∃ y ∈ p, y.kind = 5 ∧ famOf y x ∧ y.ts = w.famMask
  cm : ∀ y ∈ p, y.kind = 4 → mates y x → y.ts ≤ w.colMask
  cm0 : w.colMask = 0 ∨ ∃ y ∈ p, y.kind = 4 ∧ mates y x ∧ y.ts = w.colMask
  rk : w.rank = ((p.filter fun y => decide (counted s clock m y ∧ mates y x ∧ x.ts < y.ts)).length : Nat)
  op : w.opn = true ↔ ver x
  gr : w.opn = true → w.ge ∈ p ∧ grp w.ge x ∧ first m w.ge ∧ (w.lone = true ↔ ∀ y ∈ p, grp y x → y.kind = 3)
theorem ends_false {w : Wlk} {e : Ent} (ho : w.opn = true) (hv : ver w.ge) : endsE w e = false ↔ grp w.ge e := by
  unfold endsE
  rw [ho]
  simp only [cond_true]
  have hsc := sameCol_iff w.ge e
  cases h1 : sameColE w.ge e with
  | false =>
    simp only [Bool.not_false, cond_true, Bool.true_eq_false, false_iff]
    intro h
    have : sameColE w.ge e = true := hsc.2 ⟨h.2.2.1, hv.2, h.2.1.2⟩
    rw [h1] at this; simp at this
  | true =>
    obtain ⟨hm, h5, h5'⟩ := hsc.1 h1
    simp only [Bool.not_true, cond_false]
    cases h2 : (w.ge.ts != e.ts) with
    | true =>
      simp only [cond_true, Bool.true_eq_false, false_iff]
      intro h
      simp at h2
      exact h2 h.2.2.2
    | false =>
      simp only [cond_false]
      simp at h2
      constructor
      · intro h; simp at h; exact ⟨hv, ⟨h, h5'⟩, hm, h2⟩
      · intro h; simpa using h.2.1.1
theorem nx4_fields {w : Wlk} {x e : Ent} (hany : w.any = true) (hlast : w.last = x) :
    (nx4 (nx3 (nx2 (nx1 w e) e) e) e) = { nx1 w e with
      famMask := if famOf x e then w.famMask else 0
      colMask := if mates x e ∧ x.kind ≠ 5 ∧ e.kind ≠ 5 then w.colMask else 0
      rank := if mates x e ∧ x.kind ≠ 5 ∧ e.kind ≠ 5 then (nx1 w e).rank else 0
      any := true, last := e } := by
  have h1 : (nx1 w e).any = true ∧ (nx1 w e).last = x ∧ (nx1 w e).famMask = w.famMask ∧ (nx1 w e).colMask = w.colMask := by
    unfold nx1 closeW
    cases endsE w e <;> simp only [cond_true, cond_false]
    · exact ⟨hany, hlast, trivial, trivial⟩
    · split <;> (refine ⟨?_, ?_, ?_, ?_⟩ <;> simp [hany, hlast])
  generalize nx1 w e = v at *
  obtain ⟨h1, h2, h3, h4⟩ := h1
  have hf := sameFam_iff x e
  have hc := sameCol_iff x e
  unfold nx4 nx3 nx2 newFam newCol
  rw [h1, h2]
  simp only [cond_true]
  by_cases hF : famOf x e
  · have hF' := hf.2 hF
    by_cases hC : mates x e ∧ x.kind ≠ 5 ∧ e.kind ≠ 5
    · have hC' := hc.2 hC
      simp [hF', hC', hF, hC, h1, h2, h3, h4]
    · have hC' : sameColE x e = false := by cases h : sameColE x e; rfl; exact absurd (hc.1 h) hC
      simp [hF', hC', hF, hC, h1, h2, h3, h4]
  · have hF' : sameFamE x e = false := by cases h : sameFamE x e; rfl; exact absurd (hf.1 h) hF
    have hC : ¬ (mates x e ∧ x.kind ≠ 5 ∧ e.kind ≠ 5) := fun h => hF h.1.1
    have hC' : sameColE x e = false := by cases h : sameColE x e; rfl; exact absurd (hc.1 h) hC
    simp [hF', hC', hF, hC, h1, h2, h3, h4]
theorem count_split {p : List Ent} {A B C : Ent → Prop} [DecidablePred A] [DecidablePred B] [DecidablePred C] (h1 : ∀ y ∈ p, A y ↔ (B y ∨ C y)) (h2 : ∀ y ∈ p, ¬ (B y ∧ C y)) :
    (p.filter fun y => decide (A y)).length = (p.filter fun y => decide (B y)).length + (p.filter fun y => decide (C y)).length := by
  induction p with
  | nil => rfl
  | cons x p ih =>
    have ih := ih (fun y hy => h1 y (by simp [hy])) (fun y hy => h2 y (by simp [hy]))
    have hx := h1 x (by simp)
    have hx2 := h2 x (by simp)
    by_cases hb : B x
    · have hc : ¬ C x := fun hc => hx2 ⟨hb, hc⟩
      have ha : A x := hx.2 (.inl hb)
      simp [List.filter_cons, ha, hb, hc, ih]; omega
    · by_cases hc : C x
      · have ha : A x := hx.2 (.inr hc)
        simp [List.filter_cons, ha, hb, hc, ih]; omega
      · have ha : ¬ A x := fun ha => (hx.1 ha).elim hb hc
        simp [List.filter_cons, ha, hb, hc, ih]
theorem count_same {p : List Ent} {A B : Ent → Prop} [DecidablePred A] [DecidablePred B] (h1 : ∀ y ∈ p, A y ↔ B y) : (p.filter fun y => decide (A y)).length = (p.filter fun y => decide (B y)).length := by
  have : (p.filter fun y => decide (A y)) = p.filter fun y => decide (B y) := List.filter_congr fun y hy => by simp [h1 y hy]
  rw [this]
theorem count_none {p : List Ent} {A : Ent → Prop} [DecidablePred A] (h1 : ∀ y ∈ p, ¬ A y) : (p.filter fun y => decide (A y)).length = 0 := by
  rw [List.length_eq_zero_iff, List.filter_eq_nil_iff]
  intro y hy; simpa using h1 y hy
theorem count_one {p : List Ent} (hn : p.Pairwise fun a b => a.seq ≠ b.seq) {g : Ent} (hg : g ∈ p) (K : Prop) [Decidable K] : (p.filter fun y => decide (y = g ∧ K)).length = if K then 1 else 0 := by
  induction p with
  | nil => cases hg
  | cons x p ih =>
    obtain ⟨hx, hn⟩ := List.pairwise_cons.1 hn
    by_cases hK : K
    · rw [if_pos hK]
      by_cases e : x = g
      · subst e
        have : (p.filter fun y => decide (y = x ∧ K)).length = 0 := count_none (A := fun y => y = x ∧ K) fun y hy ⟨e, _⟩ => hx y hy (by rw [e])
        simp [List.filter_cons, hK] at this ⊢
        exact this
      · have hg' : g ∈ p := by rcases List.mem_cons.1 hg with h | h; exact absurd h.symm e; exact h
        have := ih hn hg'
        rw [if_pos hK] at this
        simp [List.filter_cons, e, hK] at this ⊢
        exact this
    · rw [if_neg hK]
      exact count_none (A := fun y => y = g ∧ K) fun y _ h => hK h.2
section
variable {s : List Fml} {clock : Int} {m p q : List Ent} {w : Wlk} {x e : Ent}
theorem InOrder.parts (hm : InOrder m) (he : m = p ++ q) : (∀ y ∈ p, ∀ z ∈ q, compE y z < 0) ∧ (p.Pairwise fun a b => a.seq ≠ b.seq) ∧ ∀ y ∈ p, ∀ z ∈ q, y.seq ≠ z.seq := by
  subst he
  have h1 := List.pairwise_append.1 hm.srt
  have h2 := List.pairwise_append.1 hm.seq
  exact ⟨h1.2.2, h2.1, h2.2.2⟩
theorem comp_asym {a b : Ent} (h : compE a b < 0) : ¬ compE b a < 0 := by
  have := (cok_comp.anti a b).1 h; omega
theorem comp_irr (a : Ent) : ¬ compE a a < 0 := by have := cok_comp.refl a; omega
theorem over_before (hm : InOrder m) (he : m = p ++ q) {g z : Ent} (hg : g ∈ p) (hv : ver g) (hz : z ∈ m) (ho : over z g) : z ∈ p := by
  rw [he] at hz
  rcases List.mem_append.1 hz with h | h
  · exact h
  · exfalso
    have hgz := (hm.parts he).1 g hg z h
    rcases ho with ⟨h5, hf⟩ | ⟨h4, hmt⟩
    · exact hv.2 (fam_first hgz hf.symm h5)
    · exact hv.1 (col_first hgz hmt.symm hv.2 h4)
theorem ver_before (hm : InOrder m) (he : m = p ++ q) {g z : Ent} (hg : g ∈ p) (hv : ver g) (hz : z ∈ q) (hvz : ver z) (hmt : mates z g) : z.ts < g.ts ∨ (z.ts = g.ts ∧ z.seq ≤ g.seq) :=
  newer_first ((hm.parts he).1 g hg z hz) hmt.symm ⟨fun h => absurd h hv.2, fun h => absurd h hvz.2⟩ ⟨fun h => absurd h hv.1, fun h => absurd h hvz.1⟩
theorem close_eq (hm : InOrder m) (he : m = p ++ q) (hi : Inv s clock m p w x) (ho : w.opn = true) (hall : ∀ z ∈ m, grp z w.ge → z ∈ p) :
    decOf w = decD s clock m w.ge ∧ (closeW w).rank = w.rank + if counted s clock m w.ge then 1 else 0 := by
  obtain ⟨hgp, hgx, hgf, hgl⟩ := hi.gr ho
  have hpm : ∀ y ∈ p, y ∈ m := fun y hy => by rw [he]; exact List.mem_append_left _ hy
  have hts := (hm.good _ (hpm _ hgp)).ts
  have hmk : (w.ge.ts ≤ max w.famMask w.colMask) ↔ masked m w.ge := by
    constructor
    · intro h
      have h' : w.ge.ts ≤ w.famMask ∨ w.ge.ts ≤ w.colMask := by omega
      rcases h' with h' | h'
      · rcases hi.fm0 with h0 | ⟨y, hy, h5, hf, hyt⟩
        · omega
        · exact ⟨y, hpm y hy, .inl ⟨h5, hf.trans hgx.2.2.1.symm.1⟩, by omega⟩
      · rcases hi.cm0 with h0 | ⟨y, hy, h4, hf, hyt⟩
        · omega
        · exact ⟨y, hpm y hy, .inr ⟨h4, hf.trans hgx.2.2.1.symm⟩, by omega⟩
    · rintro ⟨y, hy, hov, hyt⟩
      have hyp := over_before hm he hgp hgx.1 hy hov
      rcases hov with ⟨h5, hf⟩ | ⟨h4, hf⟩
      · have := hi.fm y hyp h5 (hf.trans hgx.2.2.1.1); omega
      · have := hi.cm y hyp h4 (hf.trans hgx.2.2.1); omega
  have hln : w.lone = true ↔ lone m w.ge := by
    rw [hgl]
    constructor
    · intro h y hy hg; exact h y (hall y hy hg) (hg.trans hgx)
    · intro h y hy hg; exact h y (hpm y hy) (hg.trans hgx.symm)
  have hex : (bif decide (0 < (famAt w.s w.ge.fam).ttl) then decide (w.ge.ts + (famAt w.s w.ge.fam).ttl ≤ w.clock) else false) = decide (expd s clock w.ge) := by
    rw [hi.hs, hi.hc]
    unfold expd
    by_cases h : 0 < (famAt s w.ge.fam).ttl <;> simp [h]
  have hrk : w.rank = (above s clock m w.ge : Nat) := by
    rw [hi.rk]
    congr 1
    unfold above
    have h3 : ∀ F : Ent → Bool, (m.filter F).length = (p.filter F).length + (q.filter F).length := fun F => by rw [he, List.filter_append, List.length_append]
    rw [h3]
    have h2 : (q.filter fun y => decide (counted s clock m y ∧ mates y w.ge ∧ w.ge.ts < y.ts)).length = 0 := count_none (A := fun y => counted s clock m y ∧ mates y w.ge ∧ w.ge.ts < y.ts) fun y hy ⟨hc, hmt, hlt⟩ => by
      have := ver_before hm he hgp hgx.1 hy hc.1.1 hmt; omega
    rw [h2, Nat.add_zero]
    refine count_same fun y hy => ?_
    rw [hgx.2.2.2]
    exact ⟨fun ⟨a, b, c⟩ => ⟨a, b.trans hgx.2.2.1.symm, c⟩, fun ⟨a, b, c⟩ => ⟨a, b.trans hgx.2.2.1, c⟩⟩
  have hlb : w.lone = decide (lone m w.ge) := by
    by_cases h : lone m w.ge
    · simp [h, hln.2 h]
    · simp only [h, decide_false]; cases hw : w.lone; rfl; exact absurd (hln.1 hw) h
  have hmb : decide (w.ge.ts ≤ max w.famMask w.colMask) = decide (masked m w.ge) := by simp only [hmk]
  have hout : outD (dec0 w) = decide (isOut s clock m w.ge) := by
    unfold outD dec0 isOut
    simp only [hmb, hex]
    by_cases h1 : masked m w.ge <;> by_cases h2 : expd s clock w.ge <;> simp [h1, h2]
  have hcnt : (!outD (dec0 w) && !w.lone) = decide (counted s clock m w.ge) := by
    rw [hout, hlb]
    unfold counted
    by_cases h1 : isOut s clock m w.ge <;> by_cases h2 : lone m w.ge <;> simp [h1, h2, hgf]
  have hd0 : dec0 w = { decD s clock m w.ge with rank := 0 } := by
    unfold dec0 decD
    simp only [hmb, hex]
    rw [hlb]
    by_cases h2 : w.ge.kind = 2
    · simp [h2]
    · by_cases h3 : w.ge.kind = 3
      · by_cases h4 : lone m w.ge <;> simp [h3, h4]
      · simp [h2, h3]
  constructor
  · unfold decOf
    rw [hcnt, hd0]
    by_cases hc : counted s clock m w.ge
    · simp only [hc, decide_true, cond_true, decD, if_true]; rw [hrk]
    · simp only [hc, decide_false, cond_false, decD, if_false]
  · unfold closeW
    rw [if_neg (by rw [ho]; decide)]
    show (bif !outD (dec0 w) && !w.lone then w.rank + 1 else w.rank) = _
    rw [hcnt]
    by_cases hc : counted s clock m w.ge <;> simp [hc]
end
end Go.Rt
namespace Go.Rt
open Go Go.Sx Classical
theorem nx1_clock (w : Wlk) (e : Ent) : (nx1 w e).clock = w.clock := by
  unfold nx1 closeW; cases endsE w e <;> simp only [cond_true, cond_false]; split <;> rfl
theorem nextW_clock (w : Wlk) (e : Ent) : (nextW w e).clock = w.clock := by
  have h2 : ∀ w : Wlk, (nx2 w e).clock = w.clock := fun w => by unfold nx2; cases newFam w e <;> rfl
  have h3 : ∀ w : Wlk, (nx3 w e).clock = w.clock := fun w => by unfold nx3; cases newCol w e <;> rfl
  have h4 : (nx4 (nx3 (nx2 (nx1 w e) e) e) e).clock = w.clock := (h3 _).trans ((h2 _).trans (nx1_clock w e))
  rw [← h4]
  unfold nextW nx5 verW
  repeat' split
  all_goals rfl
theorem pairwise_ne {p : List Ent} (h : p.Pairwise fun a b => a.seq ≠ b.seq) {a b : Ent} (ha : a ∈ p) (hb : b ∈ p) (hne : a ≠ b) : a.seq ≠ b.seq := by
  induction p with
  | nil => cases ha
  | cons x p ih =>
    obtain ⟨hx, hp⟩ := List.pairwise_cons.1 h
    rcases List.mem_cons.1 ha with e1 | ha'
    · rcases List.mem_cons.1 hb with e2 | hb'
      · exact absurd (e1.trans e2.symm) hne
      · rw [e1]; exact hx b hb'
    · rcases List.mem_cons.1 hb with e2 | hb'
      · rw [e2]; exact (hx a ha').symm
      · exact ih hp ha' hb'
section
variable {s : List Fml} {clock : Int} {m p q : List Ent} {w : Wlk} {x e : Ent}
theorem grp_last (hm : InOrder m) (he : m = p ++ e :: q) (hx : x ∈ p) (hmx : ∀ y ∈ p, y = x ∨ compE y x < 0) {y : Ent} (hy : y ∈ p) (hg : grp y e) : grp x e := by
  have hpe := (hm.parts he).1
  have hxe := hpe x hx e (by simp)
  rcases hmx y hy with rfl | hyx
  · exact hg
  · obtain ⟨h1, h2⟩ := mates_between hyx hxe hg.2.2.1 ⟨fun h => absurd h hg.1.2, fun h => absurd h hg.2.1.2⟩
    have hx5 : x.kind ≠ 5 := fun h => hg.1.2 (h2.2 h)
    have hx4 : x.kind ≠ 4 := fun h => hg.1.1 (col_first hyx h1 hg.1.2 h)
    have hmt : mates x e := h1.symm.trans hg.2.2.1
    refine ⟨⟨hx4, hx5⟩, hg.2.1, hmt, ?_⟩
    have a1 := newer_first hyx h1 ⟨fun h => absurd h hg.1.2, fun h => absurd h hx5⟩ ⟨fun h => absurd h hg.1.1, fun h => absurd h hx4⟩
    have a2 := newer_first hxe hmt ⟨fun h => absurd h hx5, fun h => absurd h hg.2.1.2⟩ ⟨fun h => absurd h hx4, fun h => absurd h hg.2.1.1⟩
    have a3 := hg.2.2.2
    omega
theorem grp_whole (hm : InOrder m) (he : m = p ++ e :: q) (hi : Inv s clock m p w x) (ho : w.opn = true) (hne : ¬ grp w.ge e) : ∀ z ∈ m, grp z w.ge → z ∈ p := by
  intro z hz hg
  obtain ⟨hgp, hgx, _, _⟩ := hi.gr ho
  rw [he] at hz
  rcases List.mem_append.1 hz with h | h
  · exact h
  · exfalso
    rcases List.mem_cons.1 h with rfl | h
    · exact hne hg.symm
    · have hpe := (hm.parts he).1 w.ge hgp
      have hge := hpe e (by simp)
      have hez : compE e z < 0 := by
        have hs := hm.srt
        rw [he] at hs
        have := (List.pairwise_append.1 hs).2.1
        exact (List.pairwise_cons.1 this).1 z h
      apply hne
      obtain ⟨h1, h2⟩ := mates_between hge hez hg.2.2.1.symm ⟨fun h => absurd h hgx.1.2, fun h => absurd h hg.1.2⟩
      have he5 : e.kind ≠ 5 := fun h => hgx.1.2 (h2.2 h)
      have he4 : e.kind ≠ 4 := fun h => hgx.1.1 (col_first hge h1 hgx.1.2 h)
      refine ⟨hgx.1, ⟨he4, he5⟩, h1, ?_⟩
      have a1 := newer_first hge h1 ⟨fun h => absurd h hgx.1.2, fun h => absurd h he5⟩ ⟨fun h => absurd h hgx.1.1, fun h => absurd h he4⟩
      have a2 := newer_first hez (h1.symm.trans hg.2.2.1.symm) ⟨fun h => absurd h he5, fun h => absurd h hg.1.2⟩ ⟨fun h => absurd h he4, fun h => absurd h hg.1.1⟩
      have a3 := hg.2.2.2
      omega
theorem nx1_case (hm : InOrder m) (he : m = p ++ e :: q) (hi : Inv s clock m p w x) :
    (w.opn = true ∧ grp w.ge e ∧ nx1 w e = w ∧ ev1 w e = [] ∧ pend s clock m w = [.g (decD s clock m w.ge)]) ∨
    ((∀ y ∈ p, ¬ grp y e) ∧ (nx1 w e).opn = false ∧ ev1 w e = pend s clock m w ∧ (nx1 w e).rank = w.rank + (if w.opn = true ∧ counted s clock m w.ge then 1 else 0)) := by
  cases ho : w.opn with
  | true =>
    obtain ⟨hgp, hgx, hgf, hgl⟩ := hi.gr ho
    by_cases hg : grp w.ge e
    · left
      have h1 := (ends_false ho hgx.1).2 hg
      refine ⟨rfl, hg, by unfold nx1; rw [h1]; rfl, by unfold ev1; rw [h1]; rfl, by unfold pend; rw [if_pos ho]⟩
    · right
      have h1 : endsE w e = true := by
        cases h : endsE w e
        · exact absurd ((ends_false ho hgx.1).1 h) hg
        · rfl
      obtain ⟨h2, h3⟩ := close_eq hm he hi ho (grp_whole hm he hi ho hg)
      refine ⟨fun y hy hge => hg (hgx.trans (grp_last hm he hi.xp hi.mx hy hge)), ?_, ?_, ?_⟩
      · unfold nx1; rw [h1]; show (closeW w).opn = false; unfold closeW; rw [if_neg (by rw [ho]; decide)]
      · unfold ev1 pend closeV; rw [h1, if_pos ho]; show (if w.opn = false then [] else [Ev.g (decOf w)]) = _
        rw [if_neg (by rw [ho]; decide), h2]
      · unfold nx1; rw [h1]; show (closeW w).rank = _
        rw [h3]; simp
  | false =>
    right
    have h1 : endsE w e = false := by unfold endsE; rw [ho]; rfl
    refine ⟨fun y hy hge => ?_, by unfold nx1; rw [h1]; exact ho, by unfold ev1 pend; rw [h1, ho]; rfl, by unfold nx1; rw [h1]; simp⟩
    have := hi.op.2 (grp_last hm he hi.xp hi.mx hy hge).1
    rw [ho] at this; simp at this
theorem fm4 (hm : InOrder m) (he : m = p ++ e :: q) (hi : Inv s clock m p w x) :
    (∀ y ∈ p, y.kind = 5 → famOf y e → y.ts ≤ if famOf x e then w.famMask else 0) ∧ ((if famOf x e then w.famMask else 0) = 0 ∨ ∃ y ∈ p, y.kind = 5 ∧ famOf y e ∧ y.ts = if famOf x e then w.famMask else 0) := by
  have hxe := (hm.parts he).1 x hi.xp e (by simp)
  have key : ∀ y ∈ p, famOf y e → famOf y x ∧ famOf x e := fun y hy hf => by
    rcases hi.mx y hy with rfl | hyx
    · exact ⟨.refl _, hf⟩
    · have := famOf_between hyx hxe hf
      exact ⟨this, this.symm.trans hf⟩
  by_cases hx : famOf x e
  · rw [if_pos hx]
    refine ⟨fun y hy h5 hf => hi.fm y hy h5 (key y hy hf).1, ?_⟩
    rcases hi.fm0 with h | ⟨y, hy, h5, hf, ht⟩
    · exact .inl h
    · exact .inr ⟨y, hy, h5, hf.trans hx, ht⟩
  · rw [if_neg hx]
    exact ⟨fun y hy h5 hf => absurd (key y hy hf).2 hx, .inl rfl⟩
theorem col_key (hm : InOrder m) (he : m = p ++ e :: q) (hi : Inv s clock m p w x) {y : Ent} (hy : y ∈ p) (h5 : y.kind ≠ 5) (hmt : mates y e) : mates y x ∧ mates x e ∧ x.kind ≠ 5 ∧ e.kind ≠ 5 := by
  have hpe := (hm.parts he).1
  have hxe := hpe x hi.xp e (by simp)
  have he5 : e.kind ≠ 5 := fun h => h5 (fam_first (hpe y hy e (by simp)) hmt.1 h)
  rcases hi.mx y hy with rfl | hyx
  · exact ⟨.refl _, hmt, h5, he5⟩
  · obtain ⟨h1, h2⟩ := mates_between hyx hxe hmt ⟨fun h => absurd h h5, fun h => absurd h he5⟩
    exact ⟨h1, h1.symm.trans hmt, fun h => h5 (h2.2 h), he5⟩
theorem cm4 (hm : InOrder m) (he : m = p ++ e :: q) (hi : Inv s clock m p w x) :
    (∀ y ∈ p, y.kind = 4 → mates y e → y.ts ≤ if mates x e ∧ x.kind ≠ 5 ∧ e.kind ≠ 5 then w.colMask else 0) ∧
    ((if mates x e ∧ x.kind ≠ 5 ∧ e.kind ≠ 5 then w.colMask else 0) = 0 ∨ ∃ y ∈ p, y.kind = 4 ∧ mates y e ∧ y.ts = if mates x e ∧ x.kind ≠ 5 ∧ e.kind ≠ 5 then w.colMask else 0) := by
  by_cases hx : mates x e ∧ x.kind ≠ 5 ∧ e.kind ≠ 5
  · rw [if_pos hx]
    refine ⟨fun y hy h4 hf => hi.cm y hy h4 (col_key hm he hi hy (by omega) hf).1, ?_⟩
    rcases hi.cm0 with h | ⟨y, hy, h4, hf, ht⟩
    · exact .inl h
    · exact .inr ⟨y, hy, h4, hf.trans hx.1, ht⟩
  · rw [if_neg hx]
    exact ⟨fun y hy h4 hf => absurd (col_key hm he hi hy (by omega) hf).2 hx, .inl rfl⟩
theorem rk4 (hm : InOrder m) (he : m = p ++ e :: q) (hi : Inv s clock m p w x) :
    (if mates x e ∧ x.kind ≠ 5 ∧ e.kind ≠ 5 then (nx1 w e).rank else 0) = ((p.filter fun y => decide (counted s clock m y ∧ mates y e ∧ e.ts < y.ts)).length : Nat) := by
  have hpe := (hm.parts he).1
  have hxe := hpe x hi.xp e (by simp)
  by_cases hx : mates x e ∧ x.kind ≠ 5 ∧ e.kind ≠ 5
  · rw [if_pos hx]
    obtain ⟨hxm, hx5, he5⟩ := hx
    rcases nx1_case hm he hi with ⟨ho, hg, h1, _, _⟩ | ⟨hno, h1, _, h3⟩
    · rw [h1, hi.rk]
      have hgx := (hi.gr ho).2.1
      have hts : x.ts = e.ts := by rw [← hgx.2.2.2]; exact hg.2.2.2
      congr 1
      refine count_same fun y hy => ?_
      rw [hts]
      exact ⟨fun ⟨a, b, c⟩ => ⟨a, b.trans hxm, c⟩, fun ⟨a, b, c⟩ => ⟨a, b.trans hxm.symm, c⟩⟩
    · rw [h3, hi.rk]
      cases ho : w.opn with
      | true =>
        obtain ⟨hgp, hgx, hgf, _⟩ := hi.gr ho
        have hxv := hgx.2.1
        have he4 : e.kind ≠ 4 := fun h => hxv.1 (col_first hxe hxm hx5 h)
        have hlt : e.ts < x.ts := by
          rcases newer_first hxe hxm ⟨fun h => absurd h hx5, fun h => absurd h he5⟩ ⟨fun h => absurd h hxv.1, fun h => absurd h he4⟩ with h | h
          · exact h
          · exact absurd ⟨hxv, ⟨he4, he5⟩, hxm, h.1.symm⟩ (hno x hi.xp)
        have hsp := count_split (p := p) (A := fun y => counted s clock m y ∧ mates y e ∧ e.ts < y.ts) (B := fun y => counted s clock m y ∧ mates y x ∧ x.ts < y.ts) (C := fun y => y = w.ge ∧ counted s clock m w.ge)
          (fun y hy => by
            constructor
            · rintro ⟨a, b, c⟩
              have hyx := b.trans hxm.symm
              have hge : x.ts ≤ y.ts := by
                rcases hi.mx y hy with rfl | h
                · omega
                · rcases newer_first h hyx ⟨fun h => absurd h a.1.1.2, fun h => absurd h hx5⟩ ⟨fun h => absurd h a.1.1.1, fun h => absurd h hxv.1⟩ with h | h <;> omega
              by_cases hlt2 : x.ts < y.ts
              · exact .inl ⟨a, hyx, hlt2⟩
              · right
                have hyg : grp y w.ge := ⟨a.1.1, hgx.1, hyx.trans hgx.2.2.1.symm, by have := hgx.2.2.2; omega⟩
                have hpm : ∀ z ∈ p, z ∈ m := fun z hz => by rw [he]; exact List.mem_append_left _ hz
                have h1 := a.1.2 w.ge (hpm _ hgp) hyg.symm
                have h2 := hgf.2 y (hpm _ hy) hyg
                have h3 : y = w.ge := by
                  have hseq := (hm.parts he).2.1
                  by_cases hne : y = w.ge
                  · exact hne
                  · exfalso
                    have := pairwise_ne hseq hy hgp hne
                    omega
                exact ⟨h3, h3 ▸ a⟩
            · rintro (⟨a, b, c⟩ | ⟨rfl, a⟩)
              · exact ⟨a, b.trans hxm, by omega⟩
              · exact ⟨a, hgx.2.2.1.trans hxm, by have := hgx.2.2.2; omega⟩)
          (fun y hy ⟨⟨_, _, c⟩, ⟨d, _⟩⟩ => by subst d; have := hgx.2.2.2; omega)
        rw [hsp, count_one (hm.parts he).2.1 hgp]
        by_cases hc : counted s clock m w.ge <;> simp [hc]
      | false =>
        have hx4 : x.kind = 4 := by
          rcases Decidable.em (x.kind = 4) with h | h
          · exact h
          · have := hi.op.2 ⟨h, hx5⟩; rw [ho] at this; simp at this
        have hnone : ∀ y ∈ p, counted s clock m y → mates y x → False := fun y hy a b => by
          rcases hi.mx y hy with rfl | h
          · exact a.1.1.1 hx4
          · exact a.1.1.1 (col_first h b a.1.1.2 hx4)
        rw [count_none (A := fun y => counted s clock m y ∧ mates y x ∧ x.ts < y.ts) fun y hy ⟨a, b, _⟩ => hnone y hy a b,
          count_none (A := fun y => counted s clock m y ∧ mates y e ∧ e.ts < y.ts) fun y hy ⟨a, b, _⟩ => hnone y hy a (b.trans hxm.symm)]
        simp
  · rw [if_neg hx, count_none (A := fun y => counted s clock m y ∧ mates y e ∧ e.ts < y.ts) fun y hy ⟨a, b, _⟩ => hx (col_key hm he hi hy a.1.1.2 b).2]
    rfl
theorem nx5_opn {w : Wlk} {e : Ent} : (nx5 w e).any = w.any ∧ (nx5 w e).last = w.last ∧ (nx5 w e).rank = w.rank ∧ (nx5 w e).famMask = (if e.kind = 5 then max w.famMask e.ts else w.famMask) ∧ (nx5 w e).colMask = (if e.kind = 4 then max w.colMask e.ts else w.colMask) := by
  unfold nx5 verW
  by_cases h5 : e.kind = 5
  · have h4 : e.kind ≠ 4 := by omega
    simp [h5]
  · by_cases h4 : e.kind = 4
    · simp [h4]
    · simp only [h5, h4, if_false]
      split <;> exact ⟨rfl, rfl, rfl, rfl, rfl⟩
theorem first_new (hm : InOrder m) (he : m = p ++ e :: q) (hv : ver e) (hno : ∀ y ∈ p, ¬ grp y e) : first m e := by
  refine ⟨hv, fun y hy hg => ?_⟩
  rw [he] at hy
  rcases List.mem_append.1 hy with h | h
  · exact absurd hg (hno y h)
  · rcases List.mem_cons.1 h with rfl | h
    · omega
    · have hs := hm.srt
      rw [he] at hs
      have hez := (List.pairwise_cons.1 (List.pairwise_append.1 hs).2.1).1 y h
      rcases newer_first hez hg.2.2.1.symm ⟨fun h => absurd h hv.2, fun h => absurd h hg.1.2⟩ ⟨fun h => absurd h hv.1, fun h => absurd h hg.1.1⟩ with h | h
      · have := hg.2.2.2; omega
      · exact h.2
theorem e_before (hm : InOrder m) (he : m = p ++ e :: q) : ∀ z ∈ q, compE e z < 0 := fun z h => by
  have hs := hm.srt
  rw [he] at hs
  exact (List.pairwise_cons.1 (List.pairwise_append.1 hs).2.1).1 z h
theorem top5_iff (hm : InOrder m) (he : m = p ++ e :: q) (h5 : e.kind = 5) : top5 m e ↔ ∀ y ∈ p, y.kind = 5 → ¬ famOf y e := by
  have hq : ∀ y, y ∈ m → y.kind = 5 → y.qual = e.qual := fun y hy h => by
    rw [(hm.good y hy).qual h, (hm.good e (by rw [he]; simp)).qual h5]
  have hpm : ∀ z ∈ p, z ∈ m := fun z hz => by rw [he]; exact List.mem_append_left _ hz
  constructor
  · intro h y hy h5' hf
    have h1 := h y (hpm y hy) h5' hf
    have hlt := (hm.parts he).1 y hy e (by simp)
    have h2 := newer_first hlt ⟨hf, hq y (hpm y hy) h5'⟩ ⟨fun _ => h5, fun _ => h5'⟩ ⟨fun h => by omega, fun h => by omega⟩
    have h3 := (hm.parts he).2.2 y hy e (by simp)
    omega
  · intro h y hy h5' hf
    have hy0 := hy
    rw [he] at hy
    rcases List.mem_append.1 hy with hy | hy
    · exact absurd hf (h y hy h5')
    · rcases List.mem_cons.1 hy with rfl | hy
      · exact .inr ⟨rfl, Int.le_refl _⟩
      · exact newer_first (e_before hm he y hy) ⟨hf.symm, (hq y hy0 h5').symm⟩ ⟨fun _ => h5', fun _ => h5⟩ ⟨fun h => by omega, fun h => by omega⟩
theorem top4_iff (hm : InOrder m) (he : m = p ++ e :: q) (h4 : e.kind = 4) : top4 m e ↔ (∀ y ∈ p, y.kind = 4 → ¬ mates y e) ∧ ∀ y ∈ p, y.kind = 5 → famOf y e → y.ts < e.ts := by
  have hpm : ∀ z ∈ p, z ∈ m := fun z hz => by rw [he]; exact List.mem_append_left _ hz
  constructor
  · rintro ⟨h, h'⟩
    refine ⟨fun y hy h4' hf => ?_, fun y hy => h' y (hpm y hy)⟩
    have h1 := h y (hpm y hy) h4' hf
    have hlt := (hm.parts he).1 y hy e (by simp)
    have h2 := newer_first hlt hf ⟨fun h => by omega, fun h => by omega⟩ ⟨fun _ => h4, fun _ => h4'⟩
    have h3 := (hm.parts he).2.2 y hy e (by simp)
    omega
  · rintro ⟨h, h'⟩
    refine ⟨fun y hy h4' hf => ?_, fun y hy h5 hf => ?_⟩
    · rw [he] at hy
      rcases List.mem_append.1 hy with hy | hy
      · exact absurd hf (h y hy h4')
      · rcases List.mem_cons.1 hy with rfl | hy
        · exact .inr ⟨rfl, Int.le_refl _⟩
        · exact newer_first (e_before hm he y hy) hf.symm ⟨fun h => by omega, fun h => by omega⟩ ⟨fun _ => h4', fun _ => h4⟩
    · rw [he] at hy
      rcases List.mem_append.1 hy with hy | hy
      · exact h' y hy h5 hf
      · rcases List.mem_cons.1 hy with rfl | hy
        · omega
        · have := fam_first (e_before hm he y hy) hf.symm h5; omega
theorem inv_of (hm : InOrder m) (he : m = p ++ e :: q) (w' : Wlk) (hs : w'.s = s) (hc : w'.clock = clock) (ha : w'.any = true) (hl : w'.last = e) (F C : Int)
    (f1 : ∀ y ∈ p, y.kind = 5 → famOf y e → y.ts ≤ F) (f2 : F = 0 ∨ ∃ y ∈ p, y.kind = 5 ∧ famOf y e ∧ y.ts = F)
    (c1 : ∀ y ∈ p, y.kind = 4 → mates y e → y.ts ≤ C) (c2 : C = 0 ∨ ∃ y ∈ p, y.kind = 4 ∧ mates y e ∧ y.ts = C)
    (hF : w'.famMask = if e.kind = 5 then max F e.ts else F) (hC : w'.colMask = if e.kind = 4 then max C e.ts else C)
    (hr : w'.rank = ((p.filter fun y => decide (counted s clock m y ∧ mates y e ∧ e.ts < y.ts)).length : Nat))
    (ho : w'.opn = true ↔ ver e) (hg : w'.opn = true → w'.ge ∈ p ++ [e] ∧ grp w'.ge e ∧ first m w'.ge ∧ (w'.lone = true ↔ ∀ y ∈ p ++ [e], grp y e → y.kind = 3)) : Inv s clock m (p ++ [e]) w' e where
  hs := hs
  hc := hc
  any := ha
  last := hl
  xp := by simp
  mx := fun y hy => by
    rcases List.mem_append.1 hy with h | h
    · exact .inr ((hm.parts he).1 y h e (by simp))
    · exact .inl (by simpa using h)
  fm := fun y hy h5 hf => by
    rw [hF]
    rcases List.mem_append.1 hy with h | h
    · have := f1 y h h5 hf
      split <;> omega
    · have h : y = e := by simpa using h
      subst h
      rw [if_pos h5]; omega
  fm0 := by
    rw [hF]
    by_cases h5 : e.kind = 5
    · rw [if_pos h5]
      rcases Int.le_total F e.ts with h | h
      · exact .inr ⟨e, by simp, h5, .refl e, by omega⟩
      · rcases f2 with h0 | ⟨y, hy, a, b, c⟩
        · have := (hm.good e (by rw [he]; simp)).ts; omega
        · exact .inr ⟨y, by simp [hy], a, b, by omega⟩
    · rw [if_neg h5]
      rcases f2 with h0 | ⟨y, hy, a, b, c⟩
      · exact .inl h0
      · exact .inr ⟨y, by simp [hy], a, b, c⟩
  cm := fun y hy h4 hf => by
    rw [hC]
    rcases List.mem_append.1 hy with h | h
    · have := c1 y h h4 hf
      split <;> omega
    · have h : y = e := by simpa using h
      subst h
      rw [if_pos h4]; omega
  cm0 := by
    rw [hC]
    by_cases h4 : e.kind = 4
    · rw [if_pos h4]
      rcases Int.le_total C e.ts with h | h
      · exact .inr ⟨e, by simp, h4, .refl e, by omega⟩
      · rcases c2 with h0 | ⟨y, hy, a, b, c⟩
        · have := (hm.good e (by rw [he]; simp)).ts; omega
        · exact .inr ⟨y, by simp [hy], a, b, by omega⟩
    · rw [if_neg h4]
      rcases c2 with h0 | ⟨y, hy, a, b, c⟩
      · exact .inl h0
      · exact .inr ⟨y, by simp [hy], a, b, c⟩
  rk := by
    rw [hr, List.filter_append, List.length_append]
    have : (([e] : List Ent).filter fun y => decide (counted s clock m y ∧ mates y e ∧ e.ts < y.ts)).length = 0 := count_none (A := fun y => counted s clock m y ∧ mates y e ∧ e.ts < y.ts) fun y hy ⟨_, _, h⟩ => by
      have : y = e := by simpa using hy
      subst this; omega
    rw [this, Nat.add_zero]
  op := ho
  gr := hg
theorem mask0 {F : Int} {A : Ent → Prop} (hp : ∀ y ∈ p, 1 ≤ y.ts) (f1 : ∀ y ∈ p, A y → y.ts ≤ F) (f2 : F = 0 ∨ ∃ y ∈ p, A y ∧ y.ts = F) : (F == 0) = decide (∀ y ∈ p, ¬ A y) := by
  by_cases h : ∀ y ∈ p, ¬ A y
  · rcases f2 with h0 | ⟨y, hy, a, _⟩
    · subst h0; simp; exact h
    · exact absurd a (h y hy)
  · have : F ≠ 0 := fun h0 => h fun y hy a => by have := f1 y hy a; have := hp y hy; omega
    simp only [h, decide_false]
    simpa using this
theorem mask0' {F : Int} {A : Ent → Prop} (hp : ∀ y ∈ p, 1 ≤ y.ts) (f1 : ∀ y ∈ p, A y → y.ts ≤ F) (f2 : F = 0 ∨ ∃ y ∈ p, A y ∧ y.ts = F) : F = 0 ↔ ∀ y ∈ p, ¬ A y := by
  constructor
  · intro h0 y hy a; have := f1 y hy a; have := hp y hy; omega
  · intro h
    rcases f2 with h0 | ⟨y, hy, a, _⟩
    · exact h0
    · exact absurd a (h y hy)
theorem step (hm : InOrder m) (he : m = p ++ e :: q) (hi : Inv s clock m p w x) :
    (evN w e).filter notO ++ pend s clock m (nextW w e) = pend s clock m w ++ evD s clock m e ∧ Inv s clock m (p ++ [e]) (nextW w e) e := by
  have h4 := nx4_fields (e := e) hi.any hi.last
  obtain ⟨f1, f2⟩ := fm4 hm he hi
  obtain ⟨c1, c2⟩ := cm4 hm he hi
  have hr4 := rk4 hm he hi
  have hpm : ∀ z ∈ p, z ∈ m := fun z hz => by rw [he]; exact List.mem_append_left _ hz
  have hp1 : ∀ y ∈ p, 1 ≤ y.ts := fun y hy => (hm.good y (hpm y hy)).ts
  have hs' : (nextW w e).s = s := by rw [nextW_s, hi.hs]
  have hc' : (nextW w e).clock = clock := by rw [nextW_clock, hi.hc]
  have hn : nextW w e = nx5 (nx4 (nx3 (nx2 (nx1 w e) e) e) e) e := rfl
  generalize hF : (if famOf x e then w.famMask else 0) = F at *
  generalize hC : (if mates x e ∧ x.kind ≠ 5 ∧ e.kind ≠ 5 then w.colMask else 0) = C at *
  generalize hw4 : nx4 (nx3 (nx2 (nx1 w e) e) e) e = w4 at *
  obtain ⟨n1, n2, n3, n4, n5⟩ := nx5_opn (w := w4) (e := e)
  have w4a : w4.any = true ∧ w4.last = e ∧ w4.famMask = F ∧ w4.colMask = C ∧ w4.rank = ((p.filter fun y => decide (counted s clock m y ∧ mates y e ∧ e.ts < y.ts)).length : Nat) ∧ w4.opn = (nx1 w e).opn ∧ w4.ge = (nx1 w e).ge ∧ w4.lone = (nx1 w e).lone := by
    rw [h4]; exact ⟨rfl, rfl, rfl, rfl, hr4, rfl, rfl, rfl⟩
  obtain ⟨a1, a2, a3, a4, a5, a6, a7, a8⟩ := w4a
  rw [← hn] at n1 n2 n3 n4 n5
  have mk := inv_of hm he (nextW w e) hs' hc' (n1.trans a1) (n2.trans a2) F C f1 f2 c1 c2 (by rw [n4, a3]) (by rw [n5, a4]) (n3.trans a5)
  have hev : (evN w e) = ev1 w e ++ ev5 w4 e := by unfold evN; rw [hw4]
  rw [hev, List.filter_append]
  rcases nx1_case hm he hi with ⟨ho, hg, h1, he1, hpd⟩ | ⟨hno, ho, he1, _⟩
  · -- the group goes on
    obtain ⟨hgp, hgx, hgf, hgl⟩ := hi.gr ho
    have hv := hg.2.1
    have e5 : ev5 w4 e = [.o] := by
      unfold ev5; rw [if_neg hv.2, if_neg hv.1, a6, h1, ho]; rfl
    have hnw : (nextW w e).opn = true ∧ (nextW w e).ge = w.ge ∧ (nextW w e).lone = if e.kind ≠ 3 then false else w.lone := by
      rw [hn]; unfold nx5 verW
      rw [if_neg hv.2, if_neg hv.1, if_neg (by rw [a6, h1, ho]; decide)]
      exact ⟨by show w4.opn = true; rw [a6, h1, ho], by show w4.ge = w.ge; rw [a7, h1], by show (if e.kind ≠ 3 then false else w4.lone) = _; rw [a8, h1]⟩
    refine ⟨?_, mk ⟨fun _ => hv, fun _ => hnw.1⟩ fun _ => ?_⟩
    · rw [he1, e5]
      have hnf : ¬ first m e := fun hf => by
        have h1 := hf.2 w.ge (hpm _ hgp) hg
        have h2 := hgf.2 e (by rw [he]; simp) hg.symm
        have h3 := (hm.parts he).2.2 w.ge hgp e (by simp)
        omega
      have : evD s clock m e = [] := by unfold evD; rw [if_neg hv.2, if_neg hv.1, if_neg hnf]
      rw [this, List.append_nil]
      unfold pend
      rw [if_pos hnw.1, if_pos ho, hnw.2.1]
      rfl
    · rw [hnw.2.1, hnw.2.2]
      refine ⟨List.mem_append_left _ hgp, hg, hgf, ?_⟩
      have hxe : grp x e := hgx.symm.trans hg
      constructor
      · intro h y hy hge
        by_cases hk : e.kind = 3
        · rw [if_neg (by simp [hk])] at h
          rcases List.mem_append.1 hy with hy | hy
          · exact hgl.1 h y hy (hge.trans hxe.symm)
          · have : y = e := by simpa using hy
            rw [this, hk]
        · rw [if_pos hk] at h; simp at h
      · intro h
        have hk := h e (by simp) (.refl hv)
        rw [if_neg (by simp [hk])]
        exact hgl.2 fun y hy hge => h y (by simp [hy]) (hge.trans hxe)
  · -- none under way
    have hpf : (pend s clock m w).filter notO = pend s clock m w := by unfold pend; split <;> rfl
    rw [he1, hpf, List.append_assoc]
    have ho4 : w4.opn = false := a6.trans ho
    by_cases h5 : e.kind = 5
    · have hnv : ¬ ver e := fun h => h.2 h5
      have hnw : (nextW w e).opn = false := by rw [hn]; unfold nx5; rw [if_pos h5]; exact ho4
      refine ⟨?_, mk ⟨fun h => by rw [hnw] at h; simp at h, fun h => absurd h hnv⟩ fun h => by rw [hnw] at h; simp at h⟩
      congr 1
      have hm0 := mask0 (A := fun y => y.kind = 5 ∧ famOf y e) hp1 (fun y hy a => f1 y hy a.1 a.2) (by
        rcases f2 with h | ⟨y, hy, a, b, c⟩
        · exact .inl h
        · exact .inr ⟨y, hy, ⟨a, b⟩, c⟩)
      have h1 : ev5 w4 e = [.m e (decide (top5 m e))] := by
        unfold ev5; rw [if_pos h5, a3, hm0]
        congr 2
        have := top5_iff hm he h5
        simp only [this]
        congr 1
        apply propext
        exact ⟨fun h y hy a b => h y hy ⟨a, b⟩, fun h y hy a => h y hy a.1 a.2⟩
      rw [h1]
      unfold pend evD
      rw [if_neg (by rw [hnw]; decide), if_pos h5]
      rfl
    · by_cases h4' : e.kind = 4
      · have hnv : ¬ ver e := fun h => h.1 h4'
        have hnw : (nextW w e).opn = false := by rw [hn]; unfold nx5; rw [if_neg h5, if_pos h4']; exact ho4
        refine ⟨?_, mk ⟨fun h => by rw [hnw] at h; simp at h, fun h => absurd h hnv⟩ fun h => by rw [hnw] at h; simp at h⟩
        congr 1
        have hm0 : C = 0 ↔ ∀ y ∈ p, ¬ (y.kind = 4 ∧ mates y e) := mask0' (A := fun y => y.kind = 4 ∧ mates y e) hp1 (fun y hy a => c1 y hy a.1 a.2) (by
          rcases c2 with h | ⟨y, hy, a, b, c⟩
          · exact .inl h
          · exact .inr ⟨y, hy, ⟨a, b⟩, c⟩)
        have hlt : F < e.ts ↔ ∀ y ∈ p, y.kind = 5 → famOf y e → y.ts < e.ts := by
          constructor
          · intro h y hy a b; have := f1 y hy a b; omega
          · intro h
            rcases f2 with h0 | ⟨y, hy, a, b, c⟩
            · have := (hm.good e (by rw [he]; simp)).ts; omega
            · have := h y hy a b; omega
        have ht := top4_iff hm he h4'
        have h1 : ev5 w4 e = [.m e (decide (top4 m e))] := by
          unfold ev5; rw [if_neg h5, if_pos h4', a3, a4]
          congr 2
          by_cases hA : C = 0
          · have hz : (C == 0) = true := by simpa using hA
            rw [hz]
            simp only [cond_true]
            rw [decide_eq_decide, ht, hlt]
            exact ⟨fun h => ⟨fun y hy a b => hm0.1 hA y hy ⟨a, b⟩, h⟩, fun h => h.2⟩
          · have hz : (C == 0) = false := by simpa using hA
            rw [hz]
            simp only [cond_false]
            symm
            rw [decide_eq_false_iff_not, ht]
            exact fun h => hA (hm0.2 fun y hy a => h.1 y hy a.1 a.2)
        rw [h1]
        unfold pend evD
        rw [if_neg (by rw [hnw]; decide), if_neg h5, if_pos h4']
        rfl
      · have hv : ver e := ⟨h4', h5⟩
        have hf := first_new hm he hv hno
        have hnw : (nextW w e).opn = true ∧ (nextW w e).ge = e ∧ (nextW w e).lone = (e.kind == 3) := by
          rw [hn]; unfold nx5 verW
          rw [if_neg h5, if_neg h4', if_pos ho4]
          exact ⟨rfl, rfl, rfl⟩
        refine ⟨?_, mk ⟨fun _ => hv, fun _ => hnw.1⟩ fun _ => ?_⟩
        · congr 1
          have h1 : ev5 w4 e = [] := by unfold ev5; rw [if_neg h5, if_neg h4', if_pos ho4]
          rw [h1]
          unfold pend evD
          rw [if_pos hnw.1, hnw.2.1, if_neg h5, if_neg h4', if_pos hf]
          rfl
        · rw [hnw.2.1, hnw.2.2]
          refine ⟨by simp, .refl hv, hf, ?_⟩
          constructor
          · intro h y hy hge
            rcases List.mem_append.1 hy with hy | hy
            · exact absurd hge (hno y hy)
            · have : y = e := by simpa using hy
              rw [this]; simpa using h
          · intro h
            have := h e (by simp) (.refl hv)
            simpa using this
theorem evP_inv (hm : InOrder m) : ∀ (q p : List Ent) (w : Wlk) (x : Ent), m = p ++ q → Inv s clock m p w x → (evP q w).filter notO = pend s clock m w ++ q.flatMap (evD s clock m) := by
  intro q
  induction q with
  | nil =>
    intro p w x he hi
    simp only [evP, List.flatMap_nil, List.append_nil]
    unfold closeV pend
    cases ho : w.opn with
    | false => rfl
    | true =>
      have := (close_eq hm he hi ho fun z hz _ => by rw [he] at hz; simpa using hz).1
      simp only [Bool.true_eq_false, if_false, if_true]
      rw [this]; rfl
  | cons e q ih =>
    intro p w x he hi
    obtain ⟨h1, h2⟩ := step hm he hi
    have h3 := ih (p ++ [e]) (nextW w e) e (by rw [he]; simp) h2
    rw [evP, List.filter_append, h3, ← List.append_assoc, h1, List.flatMap_cons, List.append_assoc]
theorem inv_first (hm : InOrder m) (he : m = e :: q) : (evN (wlk0 s clock) e).filter notO ++ pend s clock m (nextW (wlk0 s clock) e) = evD s clock m e ∧ Inv s clock m [e] (nextW (wlk0 s clock) e) e := by
  have he' : m = [] ++ e :: q := he
  have hn1 : nx1 (wlk0 s clock) e = wlk0 s clock := rfl
  have hn : nextW (wlk0 s clock) e = nx5 { wlk0 s clock with any := true, last := e } e := by
    unfold nextW; rw [hn1]; rfl
  have hev : evN (wlk0 s clock) e = ev5 { wlk0 s clock with any := true, last := e } e := by
    unfold evN; rw [hn1]; rfl
  obtain ⟨n1, n2, n3, n4, n5⟩ := nx5_opn (w := { wlk0 s clock with any := true, last := e }) (e := e)
  rw [← hn] at n1 n2 n3 n4 n5
  have mk := inv_of (p := []) (s := s) (clock := clock) hm he' (nextW (wlk0 s clock) e) (by rw [nextW_s]; rfl) (by rw [nextW_clock]; rfl) n1 n2 0 0 (fun y hy => by cases hy) (.inl rfl) (fun y hy => by cases hy) (.inl rfl) n4 n5 (by rw [n3]; rfl)
  rw [hev]
  by_cases h5 : e.kind = 5
  · have hnv : ¬ ver e := fun h => h.2 h5
    have hnw : (nextW (wlk0 s clock) e).opn = false := by rw [hn]; unfold nx5; rw [if_pos h5]; rfl
    refine ⟨?_, mk ⟨fun h => by rw [hnw] at h; simp at h, fun h => absurd h hnv⟩ fun h => by rw [hnw] at h; simp at h⟩
    have ht : top5 m e := (top5_iff hm he' h5).2 fun y hy => by cases hy
    unfold ev5 pend evD
    rw [if_pos h5, if_neg (by rw [hnw]; decide), if_pos h5, decide_eq_true ht]
    rfl
  · by_cases h4 : e.kind = 4
    · have hnv : ¬ ver e := fun h => h.1 h4
      have hnw : (nextW (wlk0 s clock) e).opn = false := by rw [hn]; unfold nx5; rw [if_neg h5, if_pos h4]; rfl
      refine ⟨?_, mk ⟨fun h => by rw [hnw] at h; simp at h, fun h => absurd h hnv⟩ fun h => by rw [hnw] at h; simp at h⟩
      have ht : top4 m e := (top4_iff hm he' h4).2 ⟨fun y hy => by (cases hy), fun y hy => by cases hy⟩
      have hpos := (hm.good e (by rw [he]; simp)).ts
      unfold ev5 pend evD
      rw [if_neg h5, if_pos h4, if_neg (by rw [hnw]; decide), if_neg h5, if_pos h4, decide_eq_true ht]
      have : decide ((wlk0 s clock).famMask < e.ts) = true := decide_eq_true (by show 0 < e.ts; omega)
      simp only [this]
      rfl
    · have hv : ver e := ⟨h4, h5⟩
      have hf := first_new (p := []) hm he' hv fun y hy => by cases hy
      have hnw : (nextW (wlk0 s clock) e).opn = true ∧ (nextW (wlk0 s clock) e).ge = e ∧ (nextW (wlk0 s clock) e).lone = (e.kind == 3) := by
        rw [hn]; unfold nx5 verW
        rw [if_neg h5, if_neg h4]
        exact ⟨rfl, rfl, rfl⟩
      refine ⟨?_, mk ⟨fun _ => hv, fun _ => hnw.1⟩ fun _ => ?_⟩
      · have h0 : ev5 { wlk0 s clock with any := true, last := e } e = [] := by unfold ev5; rw [if_neg h5, if_neg h4]; rfl
        rw [h0]
        unfold pend evD
        rw [if_pos hnw.1, hnw.2.1, if_neg h5, if_neg h4, if_pos hf]
        rfl
      · rw [hnw.2.1, hnw.2.2]
        refine ⟨by simp, .refl hv, hf, ?_⟩
        constructor
        · intro h y hy _
          have : y = e := by simpa using hy
          rw [this]; simpa using h
        · intro h
          have := h e (by simp) (.refl hv)
          simpa using this
theorem evP_eq (hm : InOrder m) : (evP m (wlk0 s clock)).filter notO = m.flatMap (evD s clock m) := by
  cases h : m with
  | nil => rfl
  | cons e q =>
    obtain ⟨h1, h2⟩ := inv_first (s := s) (clock := clock) hm h
    have h3 := evP_inv hm q [e] (nextW (wlk0 s clock) e) e h h2
    rw [evP, List.filter_append, h3, ← List.append_assoc, h1, List.flatMap_cons, ← h]
end
end Go.Rt
namespace Go.Rt
open Go Go.Sx Classical
def hsk (e : Ent) : Ent := { e with kind := 2, value := [] }
def kOf (s : List Fml) (major : Bool) (low : Int) : Ev → List Ent
  | .g d => if d.masked = true then [] else if d.expired = true then [] else if d.nothing = true ∧ major = true then [] else if d.nothing = true then [d.e]
    else if (famAt s d.e.fam).max < d.rank then [] else if d.husk = true then [hsk d.e] else [d.e]
  | .o => []
  | .m e b => if b = false ∨ major = true ∧ e.ts ≤ low then [] else [e]
theorem keptG_k (s : List Fml) (st : KSt) (d : Dec) : (keptG s st d).out = st.out ++ kOf s st.major st.low (.g d) ∧ (keptG s st d).major = st.major ∧ (keptG s st d).low = st.low := by
  unfold keptG kOf
  by_cases h1 : d.masked = true
  · simp [h1]
  by_cases h2 : d.expired = true
  · simp [h1, h2]
  by_cases h3 : d.nothing = true ∧ st.major = true
  · simp [h1, h2, h3]
  by_cases h4 : d.nothing = true
  · have h3' : st.major = false := by cases h : st.major; rfl; exact absurd ⟨h4, h⟩ h3
    simp [h1, h2, h4, h3']
  by_cases h5 : (famAt s d.e.fam).max < d.rank
  · simp [h1, h2, h4, h5]
  by_cases h6 : d.husk = true
  · simp [h1, h2, h4, h5, h6, hsk]
  · simp [h1, h2, h4, h5, h6]
theorem kept_fold (s : List Fml) : ∀ (l : List Ev) (st : KSt), (l.foldl (evT (keptG s) keptO keptM) st).out = st.out ++ (l.filter notO).flatMap (kOf s st.major st.low) := by
  intro l
  induction l with
  | nil => intro st; simp
  | cons v l ih =>
    intro st
    rw [List.foldl_cons, ih]
    cases v with
    | g d =>
      obtain ⟨h1, h2, h3⟩ := keptG_k s st d
      show (keptG s st d).out ++ (l.filter notO).flatMap (kOf s (keptG s st d).major (keptG s st d).low) = st.out ++ (Ev.g d :: l.filter notO).flatMap (kOf s st.major st.low)
      rw [h1, h2, h3, List.flatMap_cons, List.append_assoc]
    | o => rfl
    | m e b =>
      show (keptM st e b).out ++ (l.filter notO).flatMap (kOf s (keptM st e b).major (keptM st e b).low) = st.out ++ (Ev.m e b :: l.filter notO).flatMap (kOf s st.major st.low)
      have : (keptM st e b).out = st.out ++ kOf s st.major st.low (.m e b) ∧ (keptM st e b).major = st.major ∧ (keptM st e b).low = st.low := by
        unfold keptM kOf
        by_cases h : b = false ∨ st.major = true ∧ e.ts ≤ st.low
        · simp only [h, if_true]; simp
        · simp only [h, if_false]; simp
      obtain ⟨h1, h2, h3⟩ := this
      rw [h1, h2, h3, List.flatMap_cons, List.append_assoc]
section
variable (s : List Fml) (clock : Int) (major : Bool) (low : Int) (m : List Ent)
def keeps (e : Ent) : Prop :=
  if e.kind = 5 then top5 m e ∧ ¬ (major = true ∧ e.ts ≤ low)
  else if e.kind = 4 then top4 m e ∧ ¬ (major = true ∧ e.ts ≤ low)
  else first m e ∧ ¬ isOut s clock m e ∧ (if lone m e then major = false else (above s clock m e : Int) < (famAt s e.fam).max)
noncomputable def form (e : Ent) : Ent := if ver e ∧ ¬ lone m e ∧ (e.kind = 2 ∨ e.kind = 3) then hsk e else e
noncomputable def keepD (e : Ent) : List Ent := if keeps s clock major low m e then [form m e] else []
theorem keepD_eq (e : Ent) : (evD s clock m e).flatMap (kOf s major low) = keepD s clock major low m e := by
  unfold evD keepD keeps form
  by_cases h5 : e.kind = 5
  · have hv : ¬ ver e := fun h => h.2 h5
    simp only [h5, if_true, List.flatMap_cons, List.flatMap_nil, List.append_nil, kOf, hv, false_and, if_false]
    by_cases ht : top5 m e <;> by_cases hm : major = true ∧ e.ts ≤ low <;> simp [ht, hm, kOf]
  · by_cases h4 : e.kind = 4
    · have hv : ¬ ver e := fun h => h.1 h4
      simp only [h5, h4, if_true, if_false, List.flatMap_cons, List.flatMap_nil, List.append_nil, kOf, hv, false_and]
      by_cases ht : top4 m e <;> by_cases hm : major = true ∧ e.ts ≤ low <;> simp [ht, hm, kOf]
    · have hv : ver e := ⟨h4, h5⟩
      simp only [h5, h4, if_false]
      by_cases hf : first m e
      · simp only [hf, if_true, List.flatMap_cons, List.flatMap_nil, List.append_nil, kOf, decD, true_and, hv]
        by_cases hmk : masked m e
        · have ho : isOut s clock m e := .inl hmk
          simp [hmk, ho]
        · by_cases hx : expd s clock e
          · have ho : isOut s clock m e := .inr hx
            simp [hmk, hx, ho]
          · have ho : ¬ isOut s clock m e := fun h => h.elim hmk hx
            by_cases hl : lone m e
            · cases major <;> simp [hmk, hx, ho, hl]
            · have hc : counted s clock m e := ⟨hf, ho, hl⟩
              by_cases hr : (above s clock m e : Int) < (famAt s e.fam).max
              · have hr' : ¬ (famAt s e.fam).max < (above s clock m e : Int) + 1 := by omega
                by_cases hk : e.kind = 2 ∨ e.kind = 3
                · simp [hmk, hx, ho, hl, hc, hr, hr', hk]
                · simp [hmk, hx, ho, hl, hc, hr, hr', hk]
              · have hr' : (famAt s e.fam).max < (above s clock m e : Int) + 1 := by omega
                simp [hmk, hx, ho, hl, hc, hr, hr']
      · simp [hf]
theorem keptOf_eq (hm : InOrder m) : (keptOf s clock major low m).out = m.flatMap (keepD s clock major low m) := by
  unfold keptOf
  rw [kept_fold, evP_eq hm, List.flatMap_assoc]
  simp only [kst0, List.nil_append]
  congr 1
  funext e
  exact keepD_eq s clock major low m e
end
end Go.Rt
namespace Go.Rt
open Go Go.Sx Classical
theorem form_cases (m : List Ent) (e : Ent) : (form m e = e ∧ ¬ (ver e ∧ ¬ lone m e ∧ (e.kind = 2 ∨ e.kind = 3))) ∨ (form m e = hsk e ∧ ver e ∧ ¬ lone m e ∧ (e.kind = 2 ∨ e.kind = 3)) := by
  unfold form
  by_cases h : ver e ∧ ¬ lone m e ∧ (e.kind = 2 ∨ e.kind = 3)
  · right; rw [if_pos h]; exact ⟨rfl, h⟩
  · left; rw [if_neg h]; exact ⟨rfl, h⟩
structure Like (a b : Ent) : Prop where
  row : a.row = b.row
  fam : a.fam = b.fam
  qual : a.qual = b.qual
  ts : a.ts = b.ts
  seq : a.seq = b.seq
  k5 : a.kind = 5 ↔ b.kind = 5
  k4 : a.kind = 4 ↔ b.kind = 4
theorem form_like (m : List Ent) (e : Ent) : Like (form m e) e := by
  rcases form_cases m e with ⟨h, _⟩ | ⟨h, hv, _⟩
  · rw [h]; exact ⟨rfl, rfl, rfl, rfl, rfl, .rfl, .rfl⟩
  · rw [h]; exact ⟨rfl, rfl, rfl, rfl, rfl, ⟨fun h => by simp [hsk] at h, fun h => absurd h hv.2⟩, ⟨fun h => by simp [hsk] at h, fun h => absurd h hv.1⟩⟩
section
variable {a b a' b' : Ent}
theorem Like.ver (h : Like a b) : Rt.ver a ↔ Rt.ver b := by unfold Rt.ver; simp only [ne_eq, h.k4, h.k5]
theorem Like.fams (h : Like a b) (h' : Like a' b') : famOf a a' ↔ famOf b b' := by unfold famOf; rw [h.fam, h.row, h'.fam, h'.row]
theorem Like.mate (h : Like a b) (h' : Like a' b') : mates a a' ↔ mates b b' := by unfold mates; rw [h.fams h', h.qual, h'.qual]
theorem Like.grps (h : Like a b) (h' : Like a' b') : grp a a' ↔ grp b b' := by unfold grp; rw [h.ver, h'.ver, h.mate h', h.ts, h'.ts]
theorem Like.refl (a : Ent) : Like a a := ⟨rfl, rfl, rfl, rfl, rfl, .rfl, .rfl⟩
theorem Like.symm (h : Like a b) : Like b a := ⟨h.row.symm, h.fam.symm, h.qual.symm, h.ts.symm, h.seq.symm, h.k5.symm, h.k4.symm⟩
end
section
variable {s : List Fml} {clock : Int} {mj mj' : Bool} {low : Int} {m : List Ent}
theorem first_uniq (hm : InOrder m) {y z : Ent} (hy : y ∈ m) (hz : z ∈ m) (h1 : first m y) (h2 : first m z) (hg : grp y z) : y = z := by
  by_cases h : y = z
  · exact h
  · exfalso
    have h3 := pairwise_ne hm.seq hy hz h
    have h4 := h1.2 z hz hg.symm
    have h5 := h2.2 y hy hg
    omega
theorem mem_T {x : Ent} : x ∈ m.flatMap (keepD s clock mj low m) ↔ ∃ y ∈ m, keeps s clock mj low m y ∧ x = form m y := by
  rw [List.mem_flatMap]
  constructor
  · rintro ⟨y, hy, hx⟩
    unfold keepD at hx
    split at hx
    · rename_i hk; exact ⟨y, hy, hk, by simpa using hx⟩
    · cases hx
  · rintro ⟨y, hy, hk, rfl⟩
    exact ⟨y, hy, by unfold keepD; rw [if_pos hk]; simp⟩
theorem keeps_ver {y : Ent} (hv : ver y) : keeps s clock mj low m y ↔ first m y ∧ ¬ isOut s clock m y ∧ (if lone m y then mj = false else (above s clock m y : Int) < (famAt s y.fam).max) := by
  unfold keeps; rw [if_neg hv.2, if_neg hv.1]
theorem filter_flat {P Q : Ent → Prop} [DecidablePred P] [DecidablePred Q] : ∀ (l : List Ent), (∀ z ∈ l, keeps s clock mj low m z → P (form m z) → Q z) →
    ((l.flatMap (keepD s clock mj low m)).filter fun x => decide (P x)).length ≤ (l.filter fun x => decide (Q x)).length
  | [], _ => by simp
  | e :: l, h => by
    have ih := filter_flat l fun z hz => h z (by simp [hz])
    rw [List.flatMap_cons, List.filter_append, List.length_append, List.filter_cons]
    have h1 : ((keepD s clock mj low m e).filter fun x => decide (P x)).length ≤ if Q e then 1 else 0 := by
      unfold keepD
      split
      · rename_i hk
        by_cases hp : P (form m e)
        · rw [if_pos (h e (by simp) hk hp)]; simp [hp]
        · simp [hp]
      · simp
    by_cases hq : Q e
    · rw [if_pos hq] at h1
      simp only [hq, decide_true, if_true, List.length_cons]; omega
    · rw [if_neg hq] at h1
      simp only [hq, decide_false, Bool.false_eq_true, if_false]; omega
section
variable (hm : InOrder m) {y : Ent} (hy : y ∈ m) (hk : keeps s clock mj low m y)
include hm hy hk
theorem T_grp (hv : ver y) {x : Ent} (hx : x ∈ m.flatMap (keepD s clock mj low m)) (hg : grp x (form m y)) : x = form m y := by
  obtain ⟨z, hz, hkz, rfl⟩ := mem_T.1 hx
  have hg' := ((form_like m z).grps (form_like m y)).1 hg
  have h1 := ((keeps_ver hv).1 hk).1
  have h2 := ((keeps_ver hg'.1).1 hkz).1
  rw [first_uniq hm hz hy h2 h1 hg']
theorem T_lone (hv : ver y) : lone (m.flatMap (keepD s clock mj low m)) (form m y) ↔ lone m y := by
  have hym := mem_T.2 ⟨y, hy, hk, rfl⟩
  have h1 := ((keeps_ver hv).1 hk).1
  have hvf := (form_like m y).ver.2 hv
  constructor
  · intro h
    have h2 := h _ hym (.refl hvf)
    rcases form_cases m y with ⟨h3, h4⟩ | ⟨h3, _, _, _⟩
    · rw [h3] at h2
      by_cases hl : lone m y
      · exact hl
      · exact absurd ⟨hv, hl, .inr h2⟩ h4
    · rw [h3] at h2; simp [hsk] at h2
  · intro h x hx hg
    rw [T_grp hm hy hk hv hx hg]
    rcases form_cases m y with ⟨h3, _⟩ | ⟨_, _, h4, _⟩
    · rw [h3]; exact h y hy (.refl hv)
    · exact absurd h h4
theorem T_masked (h : masked (m.flatMap (keepD s clock mj low m)) (form m y)) : masked m y := by
  have _u1 := hm; have _u2 := hy; have _u3 := hk
  obtain ⟨x, hx, ho, ht⟩ := h
  obtain ⟨z, hz, _, rfl⟩ := mem_T.1 hx
  have hl := form_like m z
  have hly := form_like m y
  refine ⟨z, hz, ?_, by rw [← hl.ts, ← hly.ts]; exact ht⟩
  rcases ho with ⟨h5, hf⟩ | ⟨h4, hf⟩
  · exact .inl ⟨hl.k5.1 h5, (hl.fams hly).1 hf⟩
  · exact .inr ⟨hl.k4.1 h4, (hl.mate hly).1 hf⟩
theorem T_out (h : isOut s clock (m.flatMap (keepD s clock mj low m)) (form m y)) : isOut s clock m y := by
  rcases h with h | h
  · exact .inl (T_masked hm hy hk h)
  · right
    have hly := form_like m y
    unfold expd at h ⊢
    rw [hly.fam, hly.ts] at h; exact h
theorem T_first (hv : ver y) : first (m.flatMap (keepD s clock mj low m)) (form m y) :=
  ⟨(form_like m y).ver.2 hv, fun x hx hg => by rw [T_grp hm hy hk hv hx hg]; exact Int.le_refl _⟩
theorem T_above : above s clock (m.flatMap (keepD s clock mj low m)) (form m y) ≤ above s clock m y := by
  have _u1 := hm; have _u2 := hy; have _u3 := hk
  unfold above
  refine filter_flat m fun z hz hkz ⟨hc, hmt, hlt⟩ => ?_
  have hl := form_like m z
  have hly := form_like m y
  have hvz := hl.ver.1 hc.1.1
  have h1 := (keeps_ver hvz).1 hkz
  refine ⟨⟨h1.1, h1.2.1, fun h => hc.2.2 ((T_lone hm hz hkz hvz).2 h)⟩, (hl.mate hly).1 hmt, by rw [← hl.ts, ← hly.ts]; exact hlt⟩
theorem T_form : form (m.flatMap (keepD s clock mj low m)) (form m y) = form m y := by
  rcases form_cases m y with ⟨h3, h4⟩ | ⟨h3, h4, h5, h6⟩
  · by_cases hv : ver y
    · rcases form_cases (m.flatMap (keepD s clock mj low m)) (form m y) with ⟨h7, _⟩ | ⟨_, _, h8, h9⟩
      · exact h7
      · have hl : ¬ lone m y := fun h => h8 ((T_lone hm hy hk hv).2 h)
        rw [h3] at h9
        exact absurd ⟨hv, hl, h9⟩ h4
    · rcases form_cases (m.flatMap (keepD s clock mj low m)) (form m y) with ⟨h7, _⟩ | ⟨_, h8, _, _⟩
      · exact h7
      · exact absurd ((form_like m y).ver.1 h8) hv
  · rcases form_cases (m.flatMap (keepD s clock mj low m)) (form m y) with ⟨h7, _⟩ | ⟨h7, _⟩
    · exact h7
    · rw [h7, h3]; rfl
theorem T_top5 (h : top5 m y) : top5 (m.flatMap (keepD s clock mj low m)) (form m y) := by
  have _u1 := hm; have _u2 := hy; have _u3 := hk
  intro x hx h5 hf
  obtain ⟨z, hz, _, rfl⟩ := mem_T.1 hx
  have hl := form_like m z
  have hly := form_like m y
  rw [hl.ts, hl.seq, hly.ts, hly.seq]
  exact h z hz (hl.k5.1 h5) ((hl.fams hly).1 hf)
theorem T_top4 (h : top4 m y) : top4 (m.flatMap (keepD s clock mj low m)) (form m y) := by
  have _u1 := hm; have _u2 := hy; have _u3 := hk
  constructor
  · intro x hx h5 hf
    obtain ⟨z, hz, _, rfl⟩ := mem_T.1 hx
    have hl := form_like m z
    have hly := form_like m y
    rw [hl.ts, hl.seq, hly.ts, hly.seq]
    exact h.1 z hz (hl.k4.1 h5) ((hl.mate hly).1 hf)
  · intro x hx h5 hf
    obtain ⟨z, hz, _, rfl⟩ := mem_T.1 hx
    have hl := form_like m z
    have hly := form_like m y
    rw [hl.ts, hly.ts]
    exact h.2 z hz (hl.k5.1 h5) ((hl.fams hly).1 hf)
theorem keep_again : keepD s clock mj' low (m.flatMap (keepD s clock mj low m)) (form m y) = keepD s clock mj' low m y := by
  have hly := form_like m y
  have key : keeps s clock mj' low (m.flatMap (keepD s clock mj low m)) (form m y) ↔ keeps s clock mj' low m y := by
    by_cases h5 : y.kind = 5
    · have hk' := hk
      unfold keeps at hk' ⊢
      rw [if_pos (hly.k5.2 h5), if_pos h5, hly.ts]
      rw [if_pos h5] at hk'
      exact and_congr_left' ⟨fun _ => hk'.1, fun _ => T_top5 hm hy hk hk'.1⟩
    · by_cases h4 : y.kind = 4
      · have hk' := hk
        unfold keeps at hk' ⊢
        rw [if_neg (fun h => h5 (hly.k5.1 h)), if_pos (hly.k4.2 h4), if_neg h5, if_pos h4, hly.ts]
        rw [if_neg h5, if_pos h4] at hk'
        exact and_congr_left' ⟨fun _ => hk'.1, fun _ => T_top4 hm hy hk hk'.1⟩
      · have hv : ver y := ⟨h4, h5⟩
        have hk' := (keeps_ver hv).1 hk
        rw [keeps_ver (hly.ver.2 hv), keeps_ver hv]
        have e1 := T_lone hm hy hk hv
        have e2 := T_first hm hy hk hv
        have e3 : ¬ isOut s clock (m.flatMap (keepD s clock mj low m)) (form m y) := fun h => hk'.2.1 (T_out hm hy hk h)
        have e4 := T_above hm hy hk
        by_cases hl : lone m y
        · rw [if_pos hl, if_pos (e1.2 hl)]
          exact ⟨fun h => ⟨hk'.1, hk'.2.1, h.2.2⟩, fun h => ⟨e2, e3, h.2.2⟩⟩
        · have h7 := hk'.2.2
          rw [if_neg hl] at h7
          rw [if_neg hl, if_neg (fun h => hl (e1.1 h)), hly.fam]
          exact ⟨fun _ => ⟨hk'.1, hk'.2.1, h7⟩, fun _ => ⟨e2, e3, by omega⟩⟩
  unfold keepD at *
  by_cases h : keeps s clock mj' low m y
  · rw [if_pos h, if_pos (key.2 h)]
    have := T_form hm hy hk
    unfold keepD at this
    rw [this]
  · rw [if_neg h, if_neg (fun h' => h (key.1 h'))]
end
theorem again (hm : InOrder m) (hle : mj = true → mj' = true) : (m.flatMap (keepD s clock mj low m)).flatMap (keepD s clock mj' low (m.flatMap (keepD s clock mj low m))) = m.flatMap (keepD s clock mj' low m) := by
  rw [List.flatMap_assoc]
  have : ∀ (l : List Ent), (∀ e ∈ l, e ∈ m) → (l.flatMap fun e => (keepD s clock mj low m e).flatMap (keepD s clock mj' low (m.flatMap (keepD s clock mj low m)))) = l.flatMap (keepD s clock mj' low m) := by
    intro l
    induction l with
    | nil => intro _; rfl
    | cons e l ih =>
      intro h
      rw [List.flatMap_cons, List.flatMap_cons, ih fun x hx => h x (by simp [hx])]
      congr 1
      by_cases hk : keeps s clock mj low m e
      · have h1 : keepD s clock mj low m e = [form m e] := by unfold keepD; rw [if_pos hk]
        conv => lhs; rw [h1]
        simp only [List.flatMap_cons, List.flatMap_nil, List.append_nil]
        exact keep_again hm (h e (by simp)) hk
      · have h1 : keepD s clock mj low m e = [] := by unfold keepD; rw [if_neg hk]
        have h2 : ¬ keeps s clock mj' low m e := fun hk' => hk (by
          unfold keeps at hk' ⊢
          by_cases h5 : e.kind = 5
          · rw [if_pos h5] at hk' ⊢; exact ⟨hk'.1, fun ⟨a, b⟩ => hk'.2 ⟨hle a, b⟩⟩
          · by_cases h4 : e.kind = 4
            · rw [if_neg h5, if_pos h4] at hk' ⊢; exact ⟨hk'.1, fun ⟨a, b⟩ => hk'.2 ⟨hle a, b⟩⟩
            · rw [if_neg h5, if_neg h4] at hk' ⊢
              refine ⟨hk'.1, hk'.2.1, ?_⟩
              have h7 := hk'.2.2
              by_cases hl : lone m e
              · rw [if_pos hl] at h7 ⊢; cases mj; rfl; have := hle rfl; rw [h7] at this; exact this.symm
              · rw [if_neg hl] at h7 ⊢; exact h7)
        have h3 : keepD s clock mj' low m e = [] := by unfold keepD; rw [if_neg h2]
        conv => lhs; rw [h1]
        rw [h3]; rfl
  exact this m fun e he => he
end
theorem strict_of : ∀ {l : List Ent}, Srt ltE l → (l.Pairwise fun a b => a.seq ≠ b.seq) → l.Pairwise fun a b => compE a b < 0
  | [], _, _ => List.Pairwise.nil
  | a :: l, h, h' => by
    obtain ⟨h1, h2⟩ := List.pairwise_cons.1 h
    obtain ⟨h3, h4⟩ := List.pairwise_cons.1 h'
    refine List.pairwise_cons.2 ⟨fun b hb => ?_, strict_of h2 h4⟩
    have h5 := h1 b hb
    simp only [ltE, decide_eq_false_iff_not, Int.not_lt] at h5
    have h6 := cok_comp.pos h5
    rcases Int.lt_or_eq_of_le h6 with h7 | h7
    · exact h7
    · exact absurd (comp_zero_seq h7) (h3 b hb)
theorem ddE_seq : ∀ (l acc m : List Ent), ddE acc l = some m → (acc.Pairwise fun a b => a.seq ≠ b.seq) → m.Pairwise fun a b => a.seq ≠ b.seq := by
  intro l
  induction l with
  | nil => intro acc m h ha; simp only [ddE, Option.some.injEq] at h; subst h; exact ha
  | cons e l ih =>
    intro acc m h ha
    rw [ddE] at h
    split at h
    · split at h
      · exact ih _ _ h ha
      · simp at h
    · rename_i hn
      refine ih _ _ h (List.pairwise_append.2 ⟨ha, by simp, fun x hx y hy => ?_⟩)
      have : y = e := by simpa using hy
      subst this
      exact seqOf_none hn x hx
theorem ddE_mem : ∀ (l acc m : List Ent), ddE acc l = some m → ∀ x, x ∈ m ↔ (x ∈ acc ∨ x ∈ l) := by
  intro l
  induction l with
  | nil => intro acc m h x; simp only [ddE, Option.some.injEq] at h; subst h; simp
  | cons e l ih =>
    intro acc m h x
    rw [ddE] at h
    split at h
    · rename_i y hs
      split at h
      · rename_i he
        subst he
        rw [ih _ _ h x, List.mem_cons]
        have := (seqOf_some hs).1
        constructor
        · rintro (h | h)
          · exact .inl h
          · exact .inr (.inr h)
        · rintro (h | h | h)
          · exact .inl h
          · subst h; exact .inl this
          · exact .inr h
      · simp at h
    · rw [ih _ _ h x]
      simp only [List.mem_append, List.mem_cons, List.not_mem_nil, or_false]
      rw [or_assoc]
end Go.Rt
namespace Go.Rt
open Go Go.Sx Classical
section
variable (s : List Fml) (clock : Int) (m : List Ent)
end
end Go.Rt