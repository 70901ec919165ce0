/- Own layer: what the leaves of the store's programs reckon, in plain words. Of every program; no condition. -/
import Derived.Test.YtijhkfhflpmajaaPD
import Derived.Lib.Bytealg
import Derived.Test.YtijhkfhflpmajaaChecked
set_option linter.unusedSimpArgs false
set_option linter.unusedVariables false
namespace Go.Rt
open Go Go.Sx
theorem w64 {n : Int} (h : -9223372036854775808 ≤ n) (h' : n < 9223372036854775808) : IntKind.i64.wrap n = n := by
  rw [IntKind.wrap_i64]; omega
theorem drop_cons {α : Type} [Inhabited α] (l : List α) (i : Nat) (h : i < l.length) : l.drop i = l.getD i default :: l.drop (i + 1) := by
  rw [List.drop_eq_getElem_cons h]; simp [List.getD, List.getElem?_eq_getElem h]
theorem Frz.eq {H : Heap} {n : Nat} {a b : AV} (h : a = b) (hk : a.kl n) : Frz H n a b := h ▸ .kl hk
def bout (x lo hi : Int) : Bool := decide (x < lo) || decide (hi < x)
def badQ (e : Ent) : Bool := bif decide (256 < (e.qual.length : Int)) then true else bif e.kind == 5 then decide (0 < (e.qual.length : Int)) else false
def badV (e : Ent) : Bool := bif decide (4096 < (e.value.length : Int)) then true else bif e.kind != 1 then decide (0 < (e.value.length : Int)) else false
def checkE (e : Ent) : Int :=
  if bout e.row.length 1 256 then 20
  else if bout e.fam 0 7 then 21
  else if badQ e then 22
  else if bout e.ts 1 1099511627776 then 23
  else if bout e.seq 0 17592186044431 then 24
  else if bout e.kind 1 5 then 25
  else if badV e then 26
  else 0
def checkedE (s : List Fml) (e : Ent) : Int := if checkE e ≠ 0 then checkE e else if (s.length : Int) ≤ e.fam then 21 else 0
def letterB (b : UInt8) : Bool := decide (97 ≤ (b.toNat : Int)) && decide ((b.toNat : Int) ≤ 122)
def nameB (b : UInt8) : Bool := !(bif (bif !letterB b then (bif decide ((b.toNat : Int) < 48) then true else decide (57 < (b.toNat : Int))) else false) then ((b.toNat : Int) != 95) else false)
def namedB (s : List UInt8) : Bool := !(bout s.length 1 32) && letterB (s.getD 0 0) && s.all nameB
def famIx : List Fml → List UInt8 → Nat → Int
  | [], _, _ => -1
  | f :: l, name, i => if f.name = name then i else famIx l name (i + 1)
def famBad (all : List Fml) (f : Fml) (i : Nat) : Bool := !(namedB f.name) || famIx all f.name 0 != (i : Int) || bout f.max 1 16 || bout f.ttl 0 1099511627776
def famsBad (all : List Fml) : List Fml → Nat → Bool
  | [], _ => false
  | f :: l, i => famBad all f i || famsBad all l (i + 1)
def schemaE (s : List Fml) : Int := if bout s.length 1 8 then 28 else if famsBad s s 0 then 28 else 0
theorem w1 {i : Nat} (h : i < 4611686018427387904) : IntKind.i64.wrap ((i : Int) + 1) = ((i + 1 : Nat) : Int) := by
  rw [w64 (by omega) (by omega)]; omega
theorem bout_false {x lo hi : Int} (h : bout x lo hi = false) : lo ≤ x ∧ x ≤ hi := by simp [bout] at h; omega
end Go.Rt
namespace Go.Rt
open Go Go.Sx
def sameE (a b : Ent) : Bool := decide (a = b)
def sameFamE (a b : Ent) : Bool := a.fam == b.fam && a.row == b.row
def sameColE (a b : Ent) : Bool := sameFamE a b && (a.kind != 5) && (b.kind != 5) && a.qual == b.qual
def Ent.fits (e : Ent) : Prop := e.row.length ≤ 140737488355328 ∧ e.qual.length ≤ 140737488355328 ∧ e.value.length ≤ 140737488355328
def cmpI (x y : Int) : Int := if x < y then -1 else if y < x then 1 else 0
def firstI (kk : Int) (a b : Ent) : Int := if a.kind = kk then (if b.kind = kk then 0 else -1) else (if b.kind = kk then 1 else 0)
def stepE (i : Nat) (a b : Ent) : Int :=
  match i with
  | 0 => Lib.compareBytes a.row b.row
  | 1 => cmpI a.fam b.fam
  | 2 => firstI 5 a b
  | 3 => Lib.compareBytes a.qual b.qual
  | 4 => firstI 4 a b
  | 5 => cmpI b.ts a.ts
  | 6 => cmpI b.seq a.seq
  | 7 => cmpI a.kind b.kind
  | _ => 0
def compFrom (a b : Ent) : Nat → Int
  | 0 => 0
  | k + 1 => if stepE (7 - k) a b ≠ 0 then stepE (7 - k) a b else compFrom a b k
def compE (a b : Ent) : Int := compFrom a b 8
theorem sameE_eq (a b : Ent) : sameE a b = (a.fam == b.fam && a.ts == b.ts && a.seq == b.seq && a.kind == b.kind && a.row == b.row && a.qual == b.qual && a.value == b.value) := by
  unfold sameE
  rw [Bool.eq_iff_iff]
  simp only [decide_eq_true_eq, Bool.and_eq_true, beq_iff_eq]
  constructor
  · rintro rfl; simp
  · rintro ⟨⟨⟨⟨⟨⟨h1, h2⟩, h3⟩, h4⟩, h5⟩, h6⟩, h7⟩
    cases a; cases b; simp_all
end Go.Rt
namespace Go.Rt
open Go Go.Sx
theorem kls_bytes (b : List UInt8) (n : Nat) : AV.kls n (b.map byteAV) := by
  rw [AV.kls_iff]; intro x hx
  obtain ⟨y, _, rfl⟩ := List.mem_map.1 hx
  trivial
theorem kl_bys (b : List UInt8) (n : Nat) : (bys b).kl n := kls_bytes b n
theorem kl_ent (e : Ent) (n : Nat) : (entAV e).kl n := ⟨kl_bys _ _, trivial, kl_bys _ _, trivial, trivial, trivial, kl_bys _ _, trivial⟩
theorem kls_ents (l : List Ent) (n : Nat) : AV.kls n (l.map entAV) := by
  rw [AV.kls_iff]; intro x hx
  obtain ⟨y, _, rfl⟩ := List.mem_map.1 hx
  exact kl_ent y n
theorem kls_fams (l : List Fml) (n : Nat) : AV.kls n (l.map famAV) := by
  rw [AV.kls_iff]; intro x hx
  obtain ⟨y, _, rfl⟩ := List.mem_map.1 hx
  exact ⟨trivial, trivial, trivial, trivial⟩
theorem kl_sch (l : List Fml) (n : Nat) : (schAV l).kl n := ⟨kls_fams l n, trivial⟩
theorem relF_bytes {c : Ctx} : ∀ (b : List UInt8) (ds : List Value), RelF c (b.map byteAV) ds → ds = b.map fun x => .int .u8 x.toNat
  | [], ds, h => by simpa [RelF] using h
  | x :: b, ds, h => by
    simp only [List.map_cons, RelF] at h
    obtain ⟨c1, c2, e, h1, h2⟩ := h
    simp only [byteAV, Rel] at h1
    rw [e, h1, relF_bytes b c2 h2]; rfl
theorem run_bytesOf_bys {P : Program} {c : Ctx} {H : Heap} {n : Nat} {w : World} (hs : Sim c H n w) {b : List UInt8} {v : Value} (h : Rel c (bys b) false [v]) : (Extern.Bytes.bytesOf v).run P w = .ok ⟨b.toArray⟩ w := by
  simp only [bys, Rel, List.cons.injEq, and_true] at h
  obtain ⟨a, cap, rfl, _, _, hx⟩ := h
  rcases hx with hx | ⟨bb, off, arr, ds, rfl, hb, hr, ha⟩
  · have hb : b = [] := by simpa using hx
    subst hb
    cases a <;> rfl
  · obtain ⟨ty, fr, hw⟩ := hs.ro bb arr hb
    have hds := relF_bytes b ds hr
    subst hds
    have := Lib.run_loadBytesX (P := P) w (b.map fun x => (x.toNat : Int)) ⟨bb, off, none⟩ .empty (fun j x hj => by
      rw [Addr.add_plain]; simp only [World.cell?, hw]
      have := ha j (.int .u8 x) (by simp at hj ⊢; obtain ⟨y, hy, e⟩ := hj; exact ⟨y, hy, e⟩)
      simpa using this)
    simp only [List.length_map] at this ⊢
    show (Extern.Bytes.loadBytes ⟨bb, off, none⟩ b.length .empty).run P w = _
    rw [this]
    congr 1
    apply ByteArray.ext
    show (#[] : Array UInt8) ++ (Lib.bytesOf (b.map fun x => (x.toNat : Int))).toArray = b.toArray
    simp [Lib.bytesOf, List.map_map, Function.comp_def]
theorem ext_bytesCompare {P : Program} {f : FuncId} {fn : Func} {H : Heap} {n : Nat} {k : AV → Heap → Nat → Prop} (hf : P.funcs[f]? = some fn) (hb : fn.body = none) (hn : (fn.name == "runtime.NumGoroutine") = false)
    (h1 : (Extern.findNext fn).isNone = true) (h2 : Extern.find fn = some Extern.BytealgCompare.compare) (a b : List UInt8) (hk : k (.int .i64 (Lib.compareBytes a b)) H n) : ExtC P f [bys a, bys b] H n k := fun c w vs hs hr => by
  simp only [RelT] at hr
  obtain ⟨v1, _, rfl, hr1, v2, _, rfl, hr2, rfl⟩ := hr
  have h1' : Extern.findNext fn = none := by simpa using h1
  refine ⟨_, .int .i64 (Lib.compareBytes a b), c, H, n, w, ?_, .refl hs, by simp [Rel], hk⟩
  have hc : (Extern.BytealgCompare.compare #[v1, v2]).run P w = .ok (.int .i64 (Lib.compareBytes a b)) w := by
    change Sem.run P (do pure (goInt (Extern.BytealgCompare.cmp (← Extern.Bytes.bytesOf v1) (← Extern.Bytes.bytesOf v2)))) w = _
    simp only [Sem.run_bind, run_bytesOf_bys hs hr1, run_bytesOf_bys hs hr2, Result.andThen_ok, Sem.run_pure]
    rw [Lib.cmp_eq]
    rfl
  have hn' : ¬ fn.name = "runtime.NumGoroutine" := by simpa using hn
  simp [callFunc, hf, hn', hb, h1', h2, hc]
end Go.Rt
namespace Go.Rt
open Go Go.Sx
theorem famsBad_cons (all l : List Fml) (f : Fml) (i : Nat) : famsBad all (f :: l) i = (famBad all f i || famsBad all l (i + 1)) := rfl
def timesBad (l : List Int) : Bool := l.any fun t => bout t 0 1099511627776
def boundsE (s : List Fml) (clock : Int) (times : List Int) (k : Int) : Int :=
  if schemaE s ≠ 0 then schemaE s else if timesBad (clock :: times) then 32 else if bout k 1 16 then 32 else 0
def intsAV (l : List Int) : AV := .sl 1 (l.map fun x => .int .i64 x)
attribute [go_sem] intsAV
end Go.Rt
namespace Go.Rt
open Go Go.Sx
structure Dec where
  e : Ent
  husk : Bool
  nothing : Bool
  masked : Bool
  expired : Bool
  rank : Int
  deriving Inhabited
def decAV (d : Dec) : AV := .agg [entAV d.e, .bool d.husk, .bool d.nothing, .bool d.masked, .bool d.expired, .int .i64 d.rank]
attribute [go_sem] decAV
structure Wlk where
  s : List Fml
  clock : Int
  any : Bool
  last : Ent
  famMask : Int
  colMask : Int
  rank : Int
  opn : Bool
  ge : Ent
  lone : Bool
  deriving Inhabited
structure Tk (P : Program) where
  σ : Type
  kw : Nat
  recv : AV
  g : FuncId
  o : FuncId
  m : FuncId
  fg : ∃ fn, P.funcs[g]? = some fn ∧ fn.body.isSome = true ∧ (fn.name == "runtime.NumGoroutine") = false
  fo : ∃ fn, P.funcs[o]? = some fn ∧ fn.body.isSome = true ∧ (fn.name == "runtime.NumGoroutine") = false
  fm : ∃ fn, P.funcs[m]? = some fn ∧ fn.body.isSome = true ∧ (fn.name == "runtime.NumGoroutine") = false
  keys : Nat → Prop
  kwn : ¬ keys kw
  holds : σ → Heap → Nat → Prop
  ext : ∀ st H H' n n', n ≤ n' → (∀ k, k < n → k ≠ kw → H' k = H k) → holds st H n → holds st H' n'
  grp : List Fml → σ → Dec → σ
  old : σ → σ
  mrk : σ → Ent → Bool → σ
def tkAV {P : Program} (T : Tk P) : AV := .agg [.fn (.func T.g) [T.recv] [], .fn (.func T.o) [T.recv] [], .fn (.func T.m) [T.recv] []]
def walkAV {P : Program} (T : Tk P) (w : Wlk) : AV := .agg [schAV w.s, .int .i64 w.clock, tkAV T, .bool w.any, entAV w.last, .int .i64 w.famMask, .int .i64 w.colMask, .int .i64 w.rank, .bool w.opn, .agg [entAV w.ge, .bool w.lone]]
attribute [go_sem] tkAV walkAV
structure Left {P : Program} (T : Tk P) (H : Heap) (n : Nat) (w : Wlk) (st : T.σ) (H' : Heap) (n' : Nat) : Prop where
  le : n ≤ n'
  walk : H' T.kw = some (.arr 0 25 [walkAV T w])
  tk : T.holds st H' n'
  rest : ∀ k, k < n → k ≠ T.kw → ¬ T.keys k → H' k = H k
def LeftU {P : Program} (T : Tk P) (H : Heap) (n : Nat) (w : Wlk) (st : T.σ) (res : ARes) (H' : Heap) (n' : Nat) : Prop := res = .val (.tup []) ∧ Left T H n w st H' n'
structure Ahead {P : Program} (T : Tk P) (H : Heap) (n : Nat) (w : Wlk) (st : T.σ) : Prop where
  kw : T.kw < n
  keys : ∀ k, T.keys k → k < n
  walk : H T.kw = some (.arr 0 25 [walkAV T w])
  tk : T.holds st H n
structure TkOK {P : Program} (T : Tk P) (ok : T.σ → Prop) : Prop where
  cg : ∀ (w : Wlk) (st : T.σ) (d : Dec) (H : Heap) (n : Nat), Ahead T H n w st → ok st → 0 ≤ d.e.fam → d.e.fam < w.s.length → d.e.fits → ACalls P T.g [T.recv, decAV d] H n (LeftU T H n w (T.grp w.s st d))
  co : ∀ (w : Wlk) (st : T.σ) (H : Heap) (n : Nat), Ahead T H n w st → ok st → ACalls P T.o [T.recv] H n (LeftU T H n w (T.old st))
  cm : ∀ (w : Wlk) (st : T.σ) (e : Ent) (b : Bool) (H : Heap) (n : Nat), Ahead T H n w st → ok st → e.fits → ACalls P T.m [T.recv, entAV e, .bool b] H n (LeftU T H n w (T.mrk st e b))
theorem callK_useK {P : Program} {f : FuncId} {fn : Func} {first captured args args' : List AV} {H : Heap} {n : Nat} {k kp : AV → Heap → Nat → Prop} {K0 : ARes → Heap → Nat → Prop}
    (hf : P.funcs[f]? = some fn) (hb : fn.body.isSome = true) (hn : (fn.name == "runtime.NumGoroutine") = false) (ha : first ++ args ++ captured = args') (h : ACalls P f args' H n K0)
    (hk : ∀ r H' n', K0 (.val r) H' n' → k r H' n') (hp : ∀ p H' n', K0 (.pan p) H' n' → kp p H' n') : callK P (.fn (.func f) first captured) args H n k kp := by
  rw [callK_fn]
  exact .inl ⟨⟨fn, hf, hb, hn⟩, by rw [ha]; exact h.mono fun r H n hr => by cases r <;> first | exact hk _ _ _ hr | exact hp _ _ _ hr⟩
theorem Left.up {P : Program} {T : Tk P} {H H1 H' : Heap} {n n1 n' : Nat} {w : Wlk} {st : T.σ} (h : Left T H1 n1 w st H' n') (hn : n ≤ n1) (hr : ∀ k, k < n → k ≠ T.kw → ¬ T.keys k → H1 k = H k) : Left T H n w st H' n' :=
  ⟨Nat.le_trans hn h.le, h.walk, h.tk, fun k hk h1 h2 => (h.rest k (by omega) h1 h2).trans (hr k hk h1 h2)⟩
def verW (w : Wlk) (e : Ent) : Wlk := if w.opn = false then { w with opn := true, ge := e, lone := e.kind == 3 } else { w with lone := if e.kind ≠ 3 then false else w.lone }
def verT {P : Program} (T : Tk P) (w : Wlk) (st : T.σ) : T.σ := if w.opn = false then st else T.old st
def outD (d : Dec) : Bool := d.masked || d.expired
def famAt (s : List Fml) (i : Int) : Fml := s.getD i.toNat default
def dec0 (w : Wlk) : Dec := ⟨w.ge, bif w.ge.kind == 2 then true else bif w.ge.kind == 3 then !w.lone else false, w.lone, decide (w.ge.ts ≤ max w.famMask w.colMask), bif decide (0 < (famAt w.s w.ge.fam).ttl) then decide (w.ge.ts + (famAt w.s w.ge.fam).ttl ≤ w.clock) else false, 0⟩
def decOf (w : Wlk) : Dec := bif !outD (dec0 w) && !w.lone then { dec0 w with rank := w.rank + 1 } else dec0 w
def closeW (w : Wlk) : Wlk := if w.opn = false then w else { w with opn := false, rank := bif !outD (dec0 w) && !w.lone then w.rank + 1 else w.rank }
def closeT {P : Program} (T : Tk P) (w : Wlk) (st : T.σ) : T.σ := if w.opn = false then st else T.grp w.s st (decOf w)
end Go.Rt
namespace Go.Rt
open Go Go.Sx
structure WOK (w : Wlk) : Prop where
  fam : w.opn = true → 0 ≤ w.ge.fam ∧ w.ge.fam < w.s.length ∧ w.ge.fits ∧ 0 ≤ w.ge.ts ∧ w.ge.ts ≤ 1099511627776
  ttl : ∀ f ∈ w.s, 0 ≤ f.ttl ∧ f.ttl ≤ 1099511627776
  rank : 0 ≤ w.rank ∧ w.rank < 4611686018427387904
end Go.Rt
namespace Go.Rt
open Go Go.Sx
def endsE (w : Wlk) (e : Ent) : Bool := bif w.opn then (bif (bif !sameColE w.ge e then true else w.ge.ts != e.ts) then true else e.kind == 4) else false
def nx1 (w : Wlk) (e : Ent) : Wlk := bif endsE w e then closeW w else w
def nt1 {P : Program} (T : Tk P) (w : Wlk) (st : T.σ) (e : Ent) : T.σ := bif endsE w e then closeT T w st else st
def newFam (w : Wlk) (e : Ent) : Bool := bif !w.any then true else !sameFamE w.last e
def nx2 (w : Wlk) (e : Ent) : Wlk := bif newFam w e then { w with famMask := 0, colMask := 0, rank := 0 } else w
def newCol (w : Wlk) (e : Ent) : Bool := bif w.any then !sameColE w.last e else false
def nx3 (w : Wlk) (e : Ent) : Wlk := bif newCol w e then { w with colMask := 0, rank := 0 } else w
def nx4 (w : Wlk) (e : Ent) : Wlk := { w with any := true, last := e }
def nx5 (w : Wlk) (e : Ent) : Wlk :=
  if e.kind = 5 then { w with famMask := max w.famMask e.ts } else if e.kind = 4 then { w with colMask := max w.colMask e.ts } else verW w e
def nt5 {P : Program} (T : Tk P) (w : Wlk) (st : T.σ) (e : Ent) : T.σ :=
  if e.kind = 5 then T.mrk st e (w.famMask == 0) else if e.kind = 4 then T.mrk st e (bif w.colMask == 0 then decide (w.famMask < e.ts) else false) else verT T w st
def nextW (w : Wlk) (e : Ent) : Wlk := nx5 (nx4 (nx3 (nx2 (nx1 w e) e) e) e) e
def nextT {P : Program} (T : Tk P) (w : Wlk) (st : T.σ) (e : Ent) : T.σ := nt5 T (nx4 (nx3 (nx2 (nx1 w e) e) e) e) (nt1 T w st e) e
structure Amid {P : Program} (T : Tk P) (H : Heap) (n : Nat) (e : Ent) (w : Wlk) (st : T.σ) (T' : Nat → AV) (H' : Heap) (n' : Nat) : Prop where
  t0 : T' 0 = .loc T.kw 0 0 0 []
  t3 : T' 3 = .loc n 0 0 0 []
  en : H' n = some (.arr 0 7 [entAV e])
  le : n + 1 ≤ n'
  walk : H' T.kw = some (.arr 0 25 [walkAV T w])
  tk : T.holds st H' n'
  rest : ∀ k, k < n → k ≠ T.kw → ¬ T.keys k → H' k = H k
end Go.Rt
namespace Go.Rt
open Go Go.Sx
section
variable {P : Program} {T : Tk P} {H H1 : Heap} {n n1 : Nat} {e : Ent} {w' : Wlk} {st : T.σ}
theorem put_kw (o : Option AObj) {k : Nat} (h : k ≠ T.kw) : (H1.put T.kw o) k = H1 k := Heap.put_ne _ _ h
theorem amid_put (hkw : T.kw < n) (he : H1 n = some (.arr 0 7 [entAV e])) (hn : n + 1 ≤ n1) (htk : T.holds st H1 n1) (hrest : ∀ k, k < n → k ≠ T.kw → ¬ T.keys k → H1 k = H k) (w' : Wlk) {T' : Nat → AV}
    (h0 : T' 0 = .loc T.kw 0 0 0 []) (h3 : T' 3 = .loc n 0 0 0 []) : Amid T H n e w' st T' (H1.put T.kw (some (.arr 0 25 [walkAV T w']))) n1 where
  t0 := h0
  t3 := h3
  en := by rw [put_kw _ (by omega)]; exact he
  le := hn
  walk := by simp [Heap.put]
  tk := T.ext st H1 _ n1 n1 (Nat.le_refl _) (fun k _ hk => put_kw _ hk) htk
  rest := fun k hk h1 h2 => by rw [put_kw _ h1]; exact hrest k hk h1 h2
theorem ahead_put (hkw : T.kw < n) (hkeys : ∀ k, T.keys k → k < n) (hn : n + 1 ≤ n1) (htk : T.holds st H1 n1) (w' : Wlk) : Ahead T (H1.put T.kw (some (.arr 0 25 [walkAV T w']))) n1 w' st where
  kw := by omega
  keys := fun k hk => by have := hkeys k hk; omega
  walk := by simp [Heap.put]
  tk := T.ext st H1 _ n1 n1 (Nat.le_refl _) (fun k _ hk => put_kw _ hk) htk
theorem left_put (hn : n ≤ n1) (htk : T.holds st H1 n1) (hrest : ∀ k, k < n → k ≠ T.kw → ¬ T.keys k → H1 k = H k) (w' : Wlk) : Left T H n w' st (H1.put T.kw (some (.arr 0 25 [walkAV T w']))) n1 where
  le := hn
  walk := by simp [Heap.put]
  tk := T.ext st H1 _ n1 n1 (Nat.le_refl _) (fun k _ hk => put_kw _ hk) htk
  rest := fun k hk h1 h2 => by rw [put_kw _ h1]; exact hrest k hk h1 h2
end
end Go.Rt
namespace Go.Rt
open Go Go.Sx
def goodE (s : List Fml) (e : Ent) : Prop := 0 ≤ e.fam ∧ e.fam < s.length ∧ e.fits ∧ 0 ≤ e.ts ∧ e.ts ≤ 1099511627776
structure WRk (s : List Fml) (r : Int) (w : Wlk) : Prop where
  sch : w.s = s
  fam : w.opn = true → goodE s w.ge
  lo : 0 ≤ w.rank
  hi : w.rank ≤ r
theorem WRk.wok {s : List Fml} {r : Int} {w : Wlk} (h : WRk s r w) (hr : r < 4611686018427387904) (ht : ∀ f ∈ s, 0 ≤ f.ttl ∧ f.ttl ≤ 1099511627776) : WOK w :=
  ⟨fun ho => by have := h.fam ho; rw [h.sch]; exact this, by rw [h.sch]; exact ht, h.lo, by have := h.hi; omega⟩
theorem WRk.close {s : List Fml} {r : Int} {w : Wlk} (h : WRk s r w) : WRk s (r + 1) (closeW w) := by
  have h1 := h.lo; have h2 := h.hi
  unfold closeW
  split
  · exact ⟨h.sch, h.fam, h.lo, by omega⟩
  · refine ⟨h.sch, fun ho => by simp at ho, ?_, ?_⟩ <;> (cases (!outD (dec0 w) && !w.lone) <;> simp <;> omega)
theorem WRk.mono {s : List Fml} {r r' : Int} {w : Wlk} (h : WRk s r w) (hr : r ≤ r') : WRk s r' w := ⟨h.sch, h.fam, h.lo, by have := h.hi; omega⟩
theorem WRk.next {s : List Fml} {r : Int} {w : Wlk} {e : Ent} (h : WRk s r w) (he : goodE s e) (hr : 0 ≤ r) : WRk s (r + 1) (nextW w e) := by
  have h1 : WRk s (r + 1) (nx1 w e) := by
    unfold nx1; cases endsE w e
    · exact h.mono (by omega)
    · exact h.close
  have h2 : WRk s (r + 1) (nx2 (nx1 w e) e) := by
    unfold nx2; cases newFam (nx1 w e) e
    · exact h1
    · exact ⟨h1.sch, h1.fam, Int.le_refl _, by simp; omega⟩
  have h3 : WRk s (r + 1) (nx3 (nx2 (nx1 w e) e) e) := by
    unfold nx3; cases newCol (nx2 (nx1 w e) e) e
    · exact h2
    · exact ⟨h2.sch, h2.fam, Int.le_refl _, by simp; omega⟩
  have h4 : WRk s (r + 1) (nx4 (nx3 (nx2 (nx1 w e) e) e) e) := ⟨h3.sch, h3.fam, h3.lo, h3.hi⟩
  unfold nextW nx5
  split
  · exact ⟨h4.sch, h4.fam, h4.lo, h4.hi⟩
  · split
    · exact ⟨h4.sch, h4.fam, h4.lo, h4.hi⟩
    · unfold verW
      split
      · exact ⟨h4.sch, fun _ => he, h4.lo, h4.hi⟩
      · exact ⟨h4.sch, h4.fam, h4.lo, h4.hi⟩
structure TkInv {P : Program} (T : Tk P) (ok : T.σ → Prop) (M : Nat) (inv : Nat → T.σ → Prop) : Prop where
  ok : ∀ i st, i ≤ M → inv i st → ok st
  up : ∀ i st, inv i st → inv (i + 1) st
  g : ∀ i s st d, inv i st → inv (i + 1) (T.grp s st d)
  o : ∀ i st, inv i st → inv (i + 1) (T.old st)
  m : ∀ i st e b, inv i st → inv (i + 1) (T.mrk st e b)
theorem TkInv.close {P : Program} {T : Tk P} {ok : T.σ → Prop} {M : Nat} {inv : Nat → T.σ → Prop} (h : TkInv T ok M inv) {i : Nat} {w : Wlk} {st : T.σ} (hi : inv i st) : inv (i + 1) (closeT T w st) := by
  unfold closeT; split
  · exact h.up _ _ hi
  · exact h.g _ _ _ _ hi
theorem TkInv.nt1 {P : Program} {T : Tk P} {ok : T.σ → Prop} {M : Nat} {inv : Nat → T.σ → Prop} (h : TkInv T ok M inv) {i : Nat} {w : Wlk} {e : Ent} {st : T.σ} (hi : inv i st) : inv (i + 1) (nt1 T w st e) := by
  unfold Rt.nt1; cases endsE w e
  · exact h.up _ _ hi
  · exact h.close hi
theorem TkInv.next {P : Program} {T : Tk P} {ok : T.σ → Prop} {M : Nat} {inv : Nat → T.σ → Prop} (h : TkInv T ok M inv) {i : Nat} {w : Wlk} {e : Ent} {st : T.σ} (hi : inv i st) : inv (i + 2) (nextT T w st e) := by
  have h1 := h.nt1 (w := w) (e := e) hi
  unfold nextT nt5
  split
  · exact h.m _ _ _ _ h1
  · split
    · exact h.m _ _ _ _ h1
    · unfold verT; split
      · exact h.up _ _ h1
      · exact h.o _ _ h1
def runP {P : Program} (T : Tk P) : List Ent → Wlk × T.σ → Wlk × T.σ
  | [], p => p
  | e :: l, p => runP T l (nextW p.1 e, nextT T p.1 p.2 e)
def runW {P : Program} (T : Tk P) (l : List Ent) (w : Wlk) (st : T.σ) : Wlk × T.σ :=
  let p := runP T l (w, st)
  (closeW p.1, closeT T p.1 p.2)
end Go.Rt
namespace Go.Rt
open Go Go.Sx
structure KSt where
  major : Bool
  low : Int
  out : List Ent
  older : Int
  masked : Int
  expired : Int
  above : Int
  marks : Int
def KSt.ok (s : KSt) : Prop := 0 ≤ s.older ∧ 0 ≤ s.masked ∧ 0 ≤ s.expired ∧ 0 ≤ s.above ∧ 0 ≤ s.marks ∧ s.older + s.masked + s.expired + s.above + s.marks + s.out.length ≤ 1000000000000
def keptG (f : List Fml) (s : KSt) (d : Dec) : KSt :=
  if d.masked = true then { s with masked := s.masked + 1 }
  else if d.expired = true then { s with expired := s.expired + 1 }
  else if d.nothing = true ∧ s.major = true then { s with marks := s.marks + 1 }
  else if d.nothing = true then { s with out := s.out ++ [d.e] }
  else if (famAt f d.e.fam).max < d.rank then { s with above := s.above + 1 }
  else if d.husk = true then { s with out := s.out ++ [{ d.e with kind := 2, value := [] }] }
  else { s with out := s.out ++ [d.e] }
def keptO (s : KSt) : KSt := { s with older := s.older + 1 }
def keptM (s : KSt) (e : Ent) (b : Bool) : KSt :=
  if b = false ∨ s.major = true ∧ e.ts ≤ s.low then { s with marks := s.marks + 1 } else { s with out := s.out ++ [e] }
def wlk0 (s : List Fml) (clock : Int) : Wlk := ⟨s, clock, false, ⟨[], 0, [], 0, 0, 0, []⟩, 0, 0, 0, false, ⟨[], 0, [], 0, 0, 0, []⟩, false⟩
def kst0 (major : Bool) (low : Int) : KSt := ⟨major, low, [], 0, 0, 0, 0, 0⟩
inductive Ev where
  | g (d : Dec)
  | o
  | m (e : Ent) (b : Bool)
def evT {σ : Type} (grp : σ → Dec → σ) (old : σ → σ) (mrk : σ → Ent → Bool → σ) (st : σ) : Ev → σ
  | .g d => grp st d
  | .o => old st
  | .m e b => mrk st e b
def closeV (w : Wlk) : List Ev := if w.opn = false then [] else [.g (decOf w)]
def ev1 (w : Wlk) (e : Ent) : List Ev := bif endsE w e then closeV w else []
def ev5 (w : Wlk) (e : Ent) : List Ev :=
  if e.kind = 5 then [.m e (w.famMask == 0)] else if e.kind = 4 then [.m e (bif w.colMask == 0 then decide (w.famMask < e.ts) else false)] else if w.opn = false then [] else [.o]
def evN (w : Wlk) (e : Ent) : List Ev := ev1 w e ++ ev5 (nx4 (nx3 (nx2 (nx1 w e) e) e) e) e
def evP : List Ent → Wlk → List Ev
  | [], w => closeV w
  | e :: l, w => evN w e ++ evP l (nextW w e)
section
variable {P : Program} (T : Tk P)
theorem closeT_ev (w : Wlk) (st : T.σ) : closeT T w st = (closeV w).foldl (evT (T.grp w.s) T.old T.mrk) st := by
  unfold closeT closeV; split <;> rfl
theorem closeW_s (w : Wlk) : (closeW w).s = w.s := by unfold closeW; split <;> rfl
theorem nx1_s (w : Wlk) (e : Ent) : (nx1 w e).s = w.s := by unfold nx1; cases endsE w e; rfl; exact closeW_s w
theorem nx4_s (w : Wlk) (e : Ent) : (nx4 (nx3 (nx2 (nx1 w e) e) e) e).s = w.s := by
  rw [← nx1_s w e]
  have h2 : ∀ w : Wlk, (nx2 w e).s = w.s := fun w => by unfold nx2; cases newFam w e <;> rfl
  have h3 : ∀ w : Wlk, (nx3 w e).s = w.s := fun w => by unfold nx3; cases newCol w e <;> rfl
  exact (h3 _).trans (h2 _)
theorem nextW_s (w : Wlk) (e : Ent) : (nextW w e).s = w.s := by
  rw [← nx4_s w e]
  unfold nextW nx5
  split
  · rfl
  · split
    · rfl
    · unfold verW; split <;> rfl
theorem nextT_ev (w : Wlk) (st : T.σ) (e : Ent) : nextT T w st e = (evN w e).foldl (evT (T.grp w.s) T.old T.mrk) st := by
  unfold nextT evN
  rw [List.foldl_append]
  have h1 : nt1 T w st e = (ev1 w e).foldl (evT (T.grp w.s) T.old T.mrk) st := by
    unfold nt1 ev1; cases endsE w e
    · rfl
    · exact closeT_ev T w st
  rw [h1]
  unfold nt5 ev5
  split
  · rfl
  · split
    · rfl
    · unfold verT; split <;> rfl
theorem runW_ev : ∀ (l : List Ent) (w : Wlk) (st : T.σ), (runW T l w st).2 = (evP l w).foldl (evT (T.grp w.s) T.old T.mrk) st := by
  intro l
  induction l with
  | nil => intro w st; exact closeT_ev T w st
  | cons e l ih =>
    intro w st
    have h : (runW T (e :: l) w st) = runW T l (nextW w e) (nextT T w st e) := rfl
    rw [h, ih, evP, List.foldl_append, nextT_ev, nextW_s]
end
def keptOf (s : List Fml) (clock : Int) (major : Bool) (low : Int) (m : List Ent) : KSt :=
  (evP m (wlk0 s clock)).foldl (evT (keptG s) keptO keptM) (kst0 major low)
end Go.Rt
namespace Go.Rt
open Go Go.Sx
structure SSt where
  t : Int
  n : Int
  out : List Ent
  count : Int
  last : Ent
def sst0 (t n : Int) : SSt := ⟨t, n, [], 0, ⟨[], 0, [], 0, 0, 0, []⟩⟩
def unseen (f : List Fml) (s : SSt) (d : Dec) : Bool :=
  bif (bif (bif d.rank == 0 then true else decide ((famAt f d.e.fam).max < d.rank)) then true else d.husk) then true else decide (s.t < d.e.ts)
def cnt1 (s : SSt) (d : Dec) : Int := if (bif decide (0 < s.count) then !sameColE s.last d.e else false) = true then 0 else s.count
def shownG (f : List Fml) (s : SSt) (d : Dec) : SSt :=
  if unseen f s d = true then s
  else if cnt1 s d < s.n then { s with count := cnt1 s d + 1, last := d.e, out := s.out ++ [d.e] } else { s with count := cnt1 s d }
def shownOf (s : List Fml) (clock t n : Int) (m : List Ent) : SSt := (evP m (wlk0 s clock)).foldl (evT (shownG s) id fun st _ _ => st) (sst0 t n)
def topG (t : Int) (d : Dec) : Int := if 0 < d.rank then max t d.e.ts else t
def topOf (s : List Fml) (clock : Int) (m : List Ent) : Int := (evP m (wlk0 s clock)).foldl (evT topG id fun st _ _ => st) 0
end Go.Rt
namespace Go.Proofs.Ytijhkfhflpmajaa
open Go Go.Sx Go.Proofs
theorem tS_1 : tSome Try.prog 1 = true := by kernel_rfl
theorem tA_1 : tAgg Try.prog 1 = false := by kernel_rfl
theorem tZ_1 : tSz Try.prog 1 = some 1 := by kernel_rfl
theorem tS_3 : tSome Try.prog 3 = true := by kernel_rfl
theorem tA_3 : tAgg Try.prog 3 = false := by kernel_rfl
theorem tZ_3 : tSz Try.prog 3 = some 1 := by kernel_rfl
theorem tI_3 : tInt Try.prog 3 = some .i64 := by kernel_rfl
theorem tS_4 : tSome Try.prog 4 = true := by kernel_rfl
theorem tA_4 : tAgg Try.prog 4 = false := by kernel_rfl
theorem tZ_4 : tSz Try.prog 4 = some 1 := by kernel_rfl
theorem tBo_4 : tIsBool Try.prog 4 = true := by kernel_rfl
theorem tS_5 : tSome Try.prog 5 = true := by kernel_rfl
theorem tA_5 : tAgg Try.prog 5 = false := by kernel_rfl
theorem tZ_5 : tSz Try.prog 5 = some 1 := by kernel_rfl
theorem tI_5 : tInt Try.prog 5 = some .u8 := by kernel_rfl
theorem tS_9 : tSome Try.prog 9 = true := by kernel_rfl
theorem tA_9 : tAgg Try.prog 9 = false := by kernel_rfl
theorem tZ_9 : tSz Try.prog 9 = some 1 := by kernel_rfl
theorem tStr_9 : tIsStr Try.prog 9 = true := by kernel_rfl
theorem tS_22 : tSome Try.prog 22 = true := by kernel_rfl
theorem tA_22 : tAgg Try.prog 22 = false := by kernel_rfl
theorem tZ_22 : tSz Try.prog 22 = some 1 := by kernel_rfl
theorem tE_22 : tElem Try.prog 22 = some 3 := by kernel_rfl
theorem tEl_22 : tEl Try.prog 22 = some (3, 32) := by kernel_rfl
theorem tSl_22 : tIsSl Try.prog 22 = true := by kernel_rfl
theorem tBy_22 : tIsBy Try.prog 22 = false := by kernel_rfl
theorem tS_24 : tSome Try.prog 24 = true := by kernel_rfl
theorem tA_24 : tAgg Try.prog 24 = true := by kernel_rfl
theorem tZ_24 : tSz Try.prog 24 = some 1 := by kernel_rfl
theorem tF_24_0 : tFld Try.prog 24 0 = some (0, 1) := by kernel_rfl
theorem tP_24_0 : tPlc Try.prog 24 0 = some (0, 1) := by kernel_rfl
theorem tFA_24_0 : tFldA Try.prog 24 0 = false := by kernel_rfl
theorem tFS_24_0 : tFldS Try.prog 24 0 = true := by kernel_rfl
theorem tSt_24 : tIsSt Try.prog 24 = true := by kernel_rfl
theorem tS_25 : tSome Try.prog 25 = true := by kernel_rfl
theorem tA_25 : tAgg Try.prog 25 = false := by kernel_rfl
theorem tZ_25 : tSz Try.prog 25 = some 1 := by kernel_rfl
theorem tE_25 : tElem Try.prog 25 = some 7 := by kernel_rfl
theorem tEl_25 : tEl Try.prog 25 = some (7, 104) := by kernel_rfl
theorem tSl_25 : tIsSl Try.prog 25 = true := by kernel_rfl
theorem tBy_25 : tIsBy Try.prog 25 = false := by kernel_rfl
theorem tS_30 : tSome Try.prog 30 = true := by kernel_rfl
theorem tA_30 : tAgg Try.prog 30 = false := by kernel_rfl
theorem tZ_30 : tSz Try.prog 30 = some 1 := by kernel_rfl
theorem tI_30 : tInt Try.prog 30 = some .i64 := by kernel_rfl
theorem tS_36 : tSome Try.prog 36 = true := by kernel_rfl
theorem tA_36 : tAgg Try.prog 36 = false := by kernel_rfl
theorem tZ_36 : tSz Try.prog 36 = some 1 := by kernel_rfl
theorem tE_36 : tElem Try.prog 36 = some 1 := by kernel_rfl
theorem tEl_36 : tEl Try.prog 36 = some (1, 1) := by kernel_rfl
theorem tSl_36 : tIsSl Try.prog 36 = true := by kernel_rfl
theorem tBy_36 : tIsBy Try.prog 36 = true := by kernel_rfl
theorem tS_38 : tSome Try.prog 38 = true := by kernel_rfl
theorem tA_38 : tAgg Try.prog 38 = true := by kernel_rfl
theorem tZ_38 : tSz Try.prog 38 = some 7 := by kernel_rfl
theorem tF_38_0 : tFld Try.prog 38 0 = some (0, 1) := by kernel_rfl
theorem tP_38_0 : tPlc Try.prog 38 0 = some (0, 1) := by kernel_rfl
theorem tFA_38_0 : tFldA Try.prog 38 0 = false := by kernel_rfl
theorem tFS_38_0 : tFldS Try.prog 38 0 = true := by kernel_rfl
theorem tF_38_1 : tFld Try.prog 38 1 = some (1, 1) := by kernel_rfl
theorem tP_38_1 : tPlc Try.prog 38 1 = some (1, 1) := by kernel_rfl
theorem tFA_38_1 : tFldA Try.prog 38 1 = false := by kernel_rfl
theorem tFS_38_1 : tFldS Try.prog 38 1 = true := by kernel_rfl
theorem tF_38_2 : tFld Try.prog 38 2 = some (2, 1) := by kernel_rfl
theorem tP_38_2 : tPlc Try.prog 38 2 = some (2, 1) := by kernel_rfl
theorem tFA_38_2 : tFldA Try.prog 38 2 = false := by kernel_rfl
theorem tFS_38_2 : tFldS Try.prog 38 2 = true := by kernel_rfl
theorem tF_38_3 : tFld Try.prog 38 3 = some (3, 1) := by kernel_rfl
theorem tP_38_3 : tPlc Try.prog 38 3 = some (3, 1) := by kernel_rfl
theorem tFA_38_3 : tFldA Try.prog 38 3 = false := by kernel_rfl
theorem tFS_38_3 : tFldS Try.prog 38 3 = true := by kernel_rfl
theorem tF_38_4 : tFld Try.prog 38 4 = some (4, 1) := by kernel_rfl
theorem tP_38_4 : tPlc Try.prog 38 4 = some (4, 1) := by kernel_rfl
theorem tFA_38_4 : tFldA Try.prog 38 4 = false := by kernel_rfl
theorem tFS_38_4 : tFldS Try.prog 38 4 = true := by kernel_rfl
theorem tF_38_5 : tFld Try.prog 38 5 = some (5, 1) := by kernel_rfl
theorem tP_38_5 : tPlc Try.prog 38 5 = some (5, 1) := by kernel_rfl
theorem tFA_38_5 : tFldA Try.prog 38 5 = false := by kernel_rfl
theorem tFS_38_5 : tFldS Try.prog 38 5 = true := by kernel_rfl
theorem tF_38_6 : tFld Try.prog 38 6 = some (6, 1) := by kernel_rfl
theorem tP_38_6 : tPlc Try.prog 38 6 = some (6, 1) := by kernel_rfl
theorem tFA_38_6 : tFldA Try.prog 38 6 = false := by kernel_rfl
theorem tFS_38_6 : tFldS Try.prog 38 6 = true := by kernel_rfl
theorem tSt_38 : tIsSt Try.prog 38 = true := by kernel_rfl
theorem tS_41 : tSome Try.prog 41 = true := by kernel_rfl
theorem tA_41 : tAgg Try.prog 41 = false := by kernel_rfl
theorem tZ_41 : tSz Try.prog 41 = some 1 := by kernel_rfl
theorem tE_41 : tElem Try.prog 41 = some 1 := by kernel_rfl
theorem tEl_41 : tEl Try.prog 41 = some (1, 8) := by kernel_rfl
theorem tSl_41 : tIsSl Try.prog 41 = true := by kernel_rfl
theorem tBy_41 : tIsBy Try.prog 41 = false := by kernel_rfl
theorem tS_47 : tSome Try.prog 47 = true := by kernel_rfl
theorem tA_47 : tAgg Try.prog 47 = true := by kernel_rfl
theorem tZ_47 : tSz Try.prog 47 = some 3 := by kernel_rfl
theorem tF_47_0 : tFld Try.prog 47 0 = some (0, 1) := by kernel_rfl
theorem tP_47_0 : tPlc Try.prog 47 0 = some (0, 1) := by kernel_rfl
theorem tFA_47_0 : tFldA Try.prog 47 0 = false := by kernel_rfl
theorem tFS_47_0 : tFldS Try.prog 47 0 = true := by kernel_rfl
theorem tF_47_1 : tFld Try.prog 47 1 = some (1, 1) := by kernel_rfl
theorem tP_47_1 : tPlc Try.prog 47 1 = some (1, 1) := by kernel_rfl
theorem tFA_47_1 : tFldA Try.prog 47 1 = false := by kernel_rfl
theorem tFS_47_1 : tFldS Try.prog 47 1 = true := by kernel_rfl
theorem tF_47_2 : tFld Try.prog 47 2 = some (2, 1) := by kernel_rfl
theorem tP_47_2 : tPlc Try.prog 47 2 = some (2, 1) := by kernel_rfl
theorem tFA_47_2 : tFldA Try.prog 47 2 = false := by kernel_rfl
theorem tFS_47_2 : tFldS Try.prog 47 2 = true := by kernel_rfl
theorem tSt_47 : tIsSt Try.prog 47 = true := by kernel_rfl
theorem tS_51 : tSome Try.prog 51 = true := by kernel_rfl
theorem tA_51 : tAgg Try.prog 51 = false := by kernel_rfl
theorem tZ_51 : tSz Try.prog 51 = some 1 := by kernel_rfl
theorem tE_51 : tElem Try.prog 51 = some 1 := by kernel_rfl
theorem tEl_51 : tEl Try.prog 51 = some (1, 24) := by kernel_rfl
theorem tSl_51 : tIsSl Try.prog 51 = true := by kernel_rfl
theorem tBy_51 : tIsBy Try.prog 51 = false := by kernel_rfl
theorem tS_52 : tSome Try.prog 52 = true := by kernel_rfl
theorem tA_52 : tAgg Try.prog 52 = false := by kernel_rfl
theorem tZ_52 : tSz Try.prog 52 = some 1 := by kernel_rfl
theorem tE_52 : tElem Try.prog 52 = some 1 := by kernel_rfl
theorem tEl_52 : tEl Try.prog 52 = some (1, 24) := by kernel_rfl
theorem tSl_52 : tIsSl Try.prog 52 = true := by kernel_rfl
theorem tBy_52 : tIsBy Try.prog 52 = false := by kernel_rfl
theorem tS_54 : tSome Try.prog 54 = true := by kernel_rfl
theorem tA_54 : tAgg Try.prog 54 = true := by kernel_rfl
theorem tZ_54 : tSz Try.prog 54 = some 5 := by kernel_rfl
theorem tF_54_0 : tFld Try.prog 54 0 = some (0, 1) := by kernel_rfl
theorem tP_54_0 : tPlc Try.prog 54 0 = some (0, 1) := by kernel_rfl
theorem tFA_54_0 : tFldA Try.prog 54 0 = false := by kernel_rfl
theorem tFS_54_0 : tFldS Try.prog 54 0 = true := by kernel_rfl
theorem tF_54_1 : tFld Try.prog 54 1 = some (1, 1) := by kernel_rfl
theorem tP_54_1 : tPlc Try.prog 54 1 = some (1, 1) := by kernel_rfl
theorem tFA_54_1 : tFldA Try.prog 54 1 = false := by kernel_rfl
theorem tFS_54_1 : tFldS Try.prog 54 1 = true := by kernel_rfl
theorem tF_54_2 : tFld Try.prog 54 2 = some (2, 1) := by kernel_rfl
theorem tP_54_2 : tPlc Try.prog 54 2 = some (2, 1) := by kernel_rfl
theorem tFA_54_2 : tFldA Try.prog 54 2 = false := by kernel_rfl
theorem tFS_54_2 : tFldS Try.prog 54 2 = true := by kernel_rfl
theorem tF_54_3 : tFld Try.prog 54 3 = some (3, 1) := by kernel_rfl
theorem tP_54_3 : tPlc Try.prog 54 3 = some (3, 1) := by kernel_rfl
theorem tFA_54_3 : tFldA Try.prog 54 3 = false := by kernel_rfl
theorem tFS_54_3 : tFldS Try.prog 54 3 = true := by kernel_rfl
theorem tF_54_4 : tFld Try.prog 54 4 = some (4, 1) := by kernel_rfl
theorem tP_54_4 : tPlc Try.prog 54 4 = some (4, 1) := by kernel_rfl
theorem tFA_54_4 : tFldA Try.prog 54 4 = false := by kernel_rfl
theorem tFS_54_4 : tFldS Try.prog 54 4 = true := by kernel_rfl
theorem tSt_54 : tIsSt Try.prog 54 = true := by kernel_rfl
theorem tS_60 : tSome Try.prog 60 = true := by kernel_rfl
theorem tA_60 : tAgg Try.prog 60 = true := by kernel_rfl
theorem tZ_60 : tSz Try.prog 60 = some 7 := by kernel_rfl
theorem tF_60_0 : tFld Try.prog 60 0 = some (0, 1) := by kernel_rfl
theorem tP_60_0 : tPlc Try.prog 60 0 = some (0, 1) := by kernel_rfl
theorem tFA_60_0 : tFldA Try.prog 60 0 = false := by kernel_rfl
theorem tFS_60_0 : tFldS Try.prog 60 0 = true := by kernel_rfl
theorem tF_60_1 : tFld Try.prog 60 1 = some (1, 1) := by kernel_rfl
theorem tP_60_1 : tPlc Try.prog 60 1 = some (1, 1) := by kernel_rfl
theorem tFA_60_1 : tFldA Try.prog 60 1 = true := by kernel_rfl
theorem tFS_60_1 : tFldS Try.prog 60 1 = true := by kernel_rfl
theorem tF_60_2 : tFld Try.prog 60 2 = some (2, 1) := by kernel_rfl
theorem tP_60_2 : tPlc Try.prog 60 2 = some (2, 1) := by kernel_rfl
theorem tFA_60_2 : tFldA Try.prog 60 2 = false := by kernel_rfl
theorem tFS_60_2 : tFldS Try.prog 60 2 = true := by kernel_rfl
theorem tF_60_3 : tFld Try.prog 60 3 = some (3, 1) := by kernel_rfl
theorem tP_60_3 : tPlc Try.prog 60 3 = some (3, 1) := by kernel_rfl
theorem tFA_60_3 : tFldA Try.prog 60 3 = false := by kernel_rfl
theorem tFS_60_3 : tFldS Try.prog 60 3 = true := by kernel_rfl
theorem tF_60_4 : tFld Try.prog 60 4 = some (4, 1) := by kernel_rfl
theorem tP_60_4 : tPlc Try.prog 60 4 = some (4, 1) := by kernel_rfl
theorem tFA_60_4 : tFldA Try.prog 60 4 = false := by kernel_rfl
theorem tFS_60_4 : tFldS Try.prog 60 4 = true := by kernel_rfl
theorem tF_60_5 : tFld Try.prog 60 5 = some (5, 1) := by kernel_rfl
theorem tP_60_5 : tPlc Try.prog 60 5 = some (5, 1) := by kernel_rfl
theorem tFA_60_5 : tFldA Try.prog 60 5 = false := by kernel_rfl
theorem tFS_60_5 : tFldS Try.prog 60 5 = true := by kernel_rfl
theorem tF_60_6 : tFld Try.prog 60 6 = some (6, 1) := by kernel_rfl
theorem tP_60_6 : tPlc Try.prog 60 6 = some (6, 1) := by kernel_rfl
theorem tFA_60_6 : tFldA Try.prog 60 6 = false := by kernel_rfl
theorem tFS_60_6 : tFldS Try.prog 60 6 = true := by kernel_rfl
theorem tSt_60 : tIsSt Try.prog 60 = true := by kernel_rfl
theorem tS_63 : tSome Try.prog 63 = true := by kernel_rfl
theorem tA_63 : tAgg Try.prog 63 = true := by kernel_rfl
theorem tZ_63 : tSz Try.prog 63 = some 6 := by kernel_rfl
theorem tF_63_0 : tFld Try.prog 63 0 = some (0, 5) := by kernel_rfl
theorem tP_63_0 : tPlc Try.prog 63 0 = some (0, 5) := by kernel_rfl
theorem tFA_63_0 : tFldA Try.prog 63 0 = true := by kernel_rfl
theorem tFS_63_0 : tFldS Try.prog 63 0 = true := by kernel_rfl
theorem tF_63_1 : tFld Try.prog 63 1 = some (5, 1) := by kernel_rfl
theorem tP_63_1 : tPlc Try.prog 63 1 = some (5, 1) := by kernel_rfl
theorem tFA_63_1 : tFldA Try.prog 63 1 = false := by kernel_rfl
theorem tFS_63_1 : tFldS Try.prog 63 1 = true := by kernel_rfl
theorem tSt_63 : tIsSt Try.prog 63 = true := by kernel_rfl
theorem tS_65 : tSome Try.prog 65 = true := by kernel_rfl
theorem tA_65 : tAgg Try.prog 65 = false := by kernel_rfl
theorem tZ_65 : tSz Try.prog 65 = some 1 := by kernel_rfl
theorem tPt_65 : tIsPtr Try.prog 65 = true := by kernel_rfl
theorem tS_68 : tSome Try.prog 68 = true := by kernel_rfl
theorem tA_68 : tAgg Try.prog 68 = false := by kernel_rfl
theorem tZ_68 : tSz Try.prog 68 = some 1 := by kernel_rfl
theorem tPt_68 : tIsPtr Try.prog 68 = true := by kernel_rfl
theorem tS_71 : tSome Try.prog 71 = true := by kernel_rfl
theorem tA_71 : tAgg Try.prog 71 = true := by kernel_rfl
theorem tZ_71 : tSz Try.prog 71 = some 4 := by kernel_rfl
theorem tAy_71 : tAry Try.prog 71 = some (4, 1) := by kernel_rfl
theorem tAr_71 : tArr Try.prog 71 = some (4, 1, false) := by kernel_rfl
theorem tP_71_0 : tPlc Try.prog 71 0 = some (0, 1) := by kernel_rfl
theorem tP_71_1 : tPlc Try.prog 71 1 = some (1, 1) := by kernel_rfl
theorem tP_71_2 : tPlc Try.prog 71 2 = some (2, 1) := by kernel_rfl
theorem tP_71_3 : tPlc Try.prog 71 3 = some (3, 1) := by kernel_rfl
theorem tSt_71 : tIsSt Try.prog 71 = true := by kernel_rfl
theorem tArS_71 : qIndex.tArrS Try.prog 71 = true := by kernel_rfl
theorem tS_82 : tSome Try.prog 82 = true := by kernel_rfl
theorem tA_82 : tAgg Try.prog 82 = false := by kernel_rfl
theorem tZ_82 : tSz Try.prog 82 = some 1 := by kernel_rfl
theorem tPt_82 : tIsPtr Try.prog 82 = true := by kernel_rfl
theorem tS_83 : tSome Try.prog 83 = true := by kernel_rfl
theorem tA_83 : tAgg Try.prog 83 = false := by kernel_rfl
theorem tZ_83 : tSz Try.prog 83 = some 1 := by kernel_rfl
theorem tPt_83 : tIsPtr Try.prog 83 = true := by kernel_rfl
theorem tS_87 : tSome Try.prog 87 = true := by kernel_rfl
theorem tA_87 : tAgg Try.prog 87 = true := by kernel_rfl
theorem tZ_87 : tSz Try.prog 87 = some 5 := by kernel_rfl
theorem tF_87_0 : tFld Try.prog 87 0 = some (0, 1) := by kernel_rfl
theorem tP_87_0 : tPlc Try.prog 87 0 = some (0, 1) := by kernel_rfl
theorem tFA_87_0 : tFldA Try.prog 87 0 = false := by kernel_rfl
theorem tFS_87_0 : tFldS Try.prog 87 0 = true := by kernel_rfl
theorem tF_87_1 : tFld Try.prog 87 1 = some (1, 1) := by kernel_rfl
theorem tP_87_1 : tPlc Try.prog 87 1 = some (1, 1) := by kernel_rfl
theorem tFA_87_1 : tFldA Try.prog 87 1 = false := by kernel_rfl
theorem tFS_87_1 : tFldS Try.prog 87 1 = true := by kernel_rfl
theorem tF_87_2 : tFld Try.prog 87 2 = some (2, 1) := by kernel_rfl
theorem tP_87_2 : tPlc Try.prog 87 2 = some (2, 1) := by kernel_rfl
theorem tFA_87_2 : tFldA Try.prog 87 2 = false := by kernel_rfl
theorem tFS_87_2 : tFldS Try.prog 87 2 = true := by kernel_rfl
theorem tF_87_3 : tFld Try.prog 87 3 = some (3, 1) := by kernel_rfl
theorem tP_87_3 : tPlc Try.prog 87 3 = some (3, 1) := by kernel_rfl
theorem tFA_87_3 : tFldA Try.prog 87 3 = false := by kernel_rfl
theorem tFS_87_3 : tFldS Try.prog 87 3 = true := by kernel_rfl
theorem tF_87_4 : tFld Try.prog 87 4 = some (4, 1) := by kernel_rfl
theorem tP_87_4 : tPlc Try.prog 87 4 = some (4, 1) := by kernel_rfl
theorem tFA_87_4 : tFldA Try.prog 87 4 = false := by kernel_rfl
theorem tFS_87_4 : tFldS Try.prog 87 4 = true := by kernel_rfl
theorem tSt_87 : tIsSt Try.prog 87 = true := by kernel_rfl
theorem tS_89 : tSome Try.prog 89 = true := by kernel_rfl
theorem tA_89 : tAgg Try.prog 89 = true := by kernel_rfl
theorem tZ_89 : tSz Try.prog 89 = some 9 := by kernel_rfl
theorem tF_89_0 : tFld Try.prog 89 0 = some (0, 1) := by kernel_rfl
theorem tP_89_0 : tPlc Try.prog 89 0 = some (0, 1) := by kernel_rfl
theorem tFA_89_0 : tFldA Try.prog 89 0 = false := by kernel_rfl
theorem tFS_89_0 : tFldS Try.prog 89 0 = true := by kernel_rfl
theorem tF_89_1 : tFld Try.prog 89 1 = some (1, 1) := by kernel_rfl
theorem tP_89_1 : tPlc Try.prog 89 1 = some (1, 1) := by kernel_rfl
theorem tFA_89_1 : tFldA Try.prog 89 1 = false := by kernel_rfl
theorem tFS_89_1 : tFldS Try.prog 89 1 = true := by kernel_rfl
theorem tF_89_2 : tFld Try.prog 89 2 = some (2, 1) := by kernel_rfl
theorem tP_89_2 : tPlc Try.prog 89 2 = some (2, 1) := by kernel_rfl
theorem tFA_89_2 : tFldA Try.prog 89 2 = false := by kernel_rfl
theorem tFS_89_2 : tFldS Try.prog 89 2 = true := by kernel_rfl
theorem tF_89_3 : tFld Try.prog 89 3 = some (3, 5) := by kernel_rfl
theorem tP_89_3 : tPlc Try.prog 89 3 = some (3, 5) := by kernel_rfl
theorem tFA_89_3 : tFldA Try.prog 89 3 = true := by kernel_rfl
theorem tFS_89_3 : tFldS Try.prog 89 3 = true := by kernel_rfl
theorem tF_89_4 : tFld Try.prog 89 4 = some (8, 1) := by kernel_rfl
theorem tP_89_4 : tPlc Try.prog 89 4 = some (8, 1) := by kernel_rfl
theorem tFA_89_4 : tFldA Try.prog 89 4 = false := by kernel_rfl
theorem tFS_89_4 : tFldS Try.prog 89 4 = true := by kernel_rfl
theorem tSt_89 : tIsSt Try.prog 89 = true := by kernel_rfl
theorem tS_92 : tSome Try.prog 92 = true := by kernel_rfl
theorem tA_92 : tAgg Try.prog 92 = false := by kernel_rfl
theorem tZ_92 : tSz Try.prog 92 = some 1 := by kernel_rfl
theorem tPt_92 : tIsPtr Try.prog 92 = true := by kernel_rfl
theorem tS_96 : tSome Try.prog 96 = true := by kernel_rfl
theorem tA_96 : tAgg Try.prog 96 = true := by kernel_rfl
theorem tZ_96 : tSz Try.prog 96 = some 12 := by kernel_rfl
theorem tF_96_0 : tFld Try.prog 96 0 = some (0, 1) := by kernel_rfl
theorem tP_96_0 : tPlc Try.prog 96 0 = some (0, 1) := by kernel_rfl
theorem tFA_96_0 : tFldA Try.prog 96 0 = false := by kernel_rfl
theorem tFS_96_0 : tFldS Try.prog 96 0 = true := by kernel_rfl
theorem tF_96_1 : tFld Try.prog 96 1 = some (1, 1) := by kernel_rfl
theorem tP_96_1 : tPlc Try.prog 96 1 = some (1, 1) := by kernel_rfl
theorem tFA_96_1 : tFldA Try.prog 96 1 = false := by kernel_rfl
theorem tFS_96_1 : tFldS Try.prog 96 1 = true := by kernel_rfl
theorem tF_96_2 : tFld Try.prog 96 2 = some (2, 1) := by kernel_rfl
theorem tP_96_2 : tPlc Try.prog 96 2 = some (2, 1) := by kernel_rfl
theorem tFA_96_2 : tFldA Try.prog 96 2 = false := by kernel_rfl
theorem tFS_96_2 : tFldS Try.prog 96 2 = true := by kernel_rfl
theorem tF_96_3 : tFld Try.prog 96 3 = some (3, 1) := by kernel_rfl
theorem tP_96_3 : tPlc Try.prog 96 3 = some (3, 1) := by kernel_rfl
theorem tFA_96_3 : tFldA Try.prog 96 3 = false := by kernel_rfl
theorem tFS_96_3 : tFldS Try.prog 96 3 = true := by kernel_rfl
theorem tF_96_4 : tFld Try.prog 96 4 = some (4, 7) := by kernel_rfl
theorem tP_96_4 : tPlc Try.prog 96 4 = some (4, 7) := by kernel_rfl
theorem tFA_96_4 : tFldA Try.prog 96 4 = true := by kernel_rfl
theorem tFS_96_4 : tFldS Try.prog 96 4 = true := by kernel_rfl
theorem tF_96_5 : tFld Try.prog 96 5 = some (11, 1) := by kernel_rfl
theorem tP_96_5 : tPlc Try.prog 96 5 = some (11, 1) := by kernel_rfl
theorem tFA_96_5 : tFldA Try.prog 96 5 = false := by kernel_rfl
theorem tFS_96_5 : tFldS Try.prog 96 5 = true := by kernel_rfl
theorem tSt_96 : tIsSt Try.prog 96 = true := by kernel_rfl
theorem tS_101 : tSome Try.prog 101 = true := by kernel_rfl
theorem tA_101 : tAgg Try.prog 101 = true := by kernel_rfl
theorem tZ_101 : tSz Try.prog 101 = some 1 := by kernel_rfl
theorem tF_101_0 : tFld Try.prog 101 0 = some (0, 1) := by kernel_rfl
theorem tP_101_0 : tPlc Try.prog 101 0 = some (0, 1) := by kernel_rfl
theorem tFA_101_0 : tFldA Try.prog 101 0 = false := by kernel_rfl
theorem tFS_101_0 : tFldS Try.prog 101 0 = true := by kernel_rfl
theorem tSt_101 : tIsSt Try.prog 101 = true := by kernel_rfl
theorem tS_103 : tSome Try.prog 103 = true := by kernel_rfl
theorem tA_103 : tAgg Try.prog 103 = true := by kernel_rfl
theorem tZ_103 : tSz Try.prog 103 = some 2 := by kernel_rfl
theorem tF_103_0 : tFld Try.prog 103 0 = some (0, 1) := by kernel_rfl
theorem tP_103_0 : tPlc Try.prog 103 0 = some (0, 1) := by kernel_rfl
theorem tFA_103_0 : tFldA Try.prog 103 0 = true := by kernel_rfl
theorem tFS_103_0 : tFldS Try.prog 103 0 = true := by kernel_rfl
theorem tF_103_1 : tFld Try.prog 103 1 = some (1, 1) := by kernel_rfl
theorem tP_103_1 : tPlc Try.prog 103 1 = some (1, 1) := by kernel_rfl
theorem tFA_103_1 : tFldA Try.prog 103 1 = false := by kernel_rfl
theorem tFS_103_1 : tFldS Try.prog 103 1 = true := by kernel_rfl
theorem tSt_103 : tIsSt Try.prog 103 = true := by kernel_rfl
theorem tS_105 : tSome Try.prog 105 = true := by kernel_rfl
theorem tA_105 : tAgg Try.prog 105 = true := by kernel_rfl
theorem tZ_105 : tSz Try.prog 105 = some 2 := by kernel_rfl
theorem tF_105_0 : tFld Try.prog 105 0 = some (0, 1) := by kernel_rfl
theorem tP_105_0 : tPlc Try.prog 105 0 = some (0, 1) := by kernel_rfl
theorem tFA_105_0 : tFldA Try.prog 105 0 = true := by kernel_rfl
theorem tFS_105_0 : tFldS Try.prog 105 0 = true := by kernel_rfl
theorem tF_105_1 : tFld Try.prog 105 1 = some (1, 1) := by kernel_rfl
theorem tP_105_1 : tPlc Try.prog 105 1 = some (1, 1) := by kernel_rfl
theorem tFA_105_1 : tFldA Try.prog 105 1 = false := by kernel_rfl
theorem tFS_105_1 : tFldS Try.prog 105 1 = true := by kernel_rfl
theorem tSt_105 : tIsSt Try.prog 105 = true := by kernel_rfl
theorem tS_111 : tSome Try.prog 111 = true := by kernel_rfl
theorem tA_111 : tAgg Try.prog 111 = true := by kernel_rfl
theorem tZ_111 : tSz Try.prog 111 = some 1 := by kernel_rfl
theorem tF_111_0 : tFld Try.prog 111 0 = some (0, 1) := by kernel_rfl
theorem tP_111_0 : tPlc Try.prog 111 0 = some (0, 1) := by kernel_rfl
theorem tFA_111_0 : tFldA Try.prog 111 0 = false := by kernel_rfl
theorem tFS_111_0 : tFldS Try.prog 111 0 = true := by kernel_rfl
theorem tSt_111 : tIsSt Try.prog 111 = true := by kernel_rfl
theorem tS_112 : tSome Try.prog 112 = true := by kernel_rfl
theorem tA_112 : tAgg Try.prog 112 = false := by kernel_rfl
theorem tZ_112 : tSz Try.prog 112 = some 1 := by kernel_rfl
theorem tS_113 : tSome Try.prog 113 = true := by kernel_rfl
theorem tA_113 : tAgg Try.prog 113 = false := by kernel_rfl
theorem tZ_113 : tSz Try.prog 113 = some 1 := by kernel_rfl
theorem tS_115 : tSome Try.prog 115 = true := by kernel_rfl
theorem tA_115 : tAgg Try.prog 115 = true := by kernel_rfl
theorem tZ_115 : tSz Try.prog 115 = some 3 := by kernel_rfl
theorem tF_115_0 : tFld Try.prog 115 0 = some (0, 1) := by kernel_rfl
theorem tP_115_0 : tPlc Try.prog 115 0 = some (0, 1) := by kernel_rfl
theorem tFA_115_0 : tFldA Try.prog 115 0 = false := by kernel_rfl
theorem tFS_115_0 : tFldS Try.prog 115 0 = true := by kernel_rfl
theorem tF_115_1 : tFld Try.prog 115 1 = some (1, 1) := by kernel_rfl
theorem tP_115_1 : tPlc Try.prog 115 1 = some (1, 1) := by kernel_rfl
theorem tFA_115_1 : tFldA Try.prog 115 1 = false := by kernel_rfl
theorem tFS_115_1 : tFldS Try.prog 115 1 = true := by kernel_rfl
theorem tF_115_2 : tFld Try.prog 115 2 = some (2, 1) := by kernel_rfl
theorem tP_115_2 : tPlc Try.prog 115 2 = some (2, 1) := by kernel_rfl
theorem tFA_115_2 : tFldA Try.prog 115 2 = false := by kernel_rfl
theorem tFS_115_2 : tFldS Try.prog 115 2 = true := by kernel_rfl
theorem tSt_115 : tIsSt Try.prog 115 = true := by kernel_rfl
theorem tS_117 : tSome Try.prog 117 = true := by kernel_rfl
theorem tA_117 : tAgg Try.prog 117 = true := by kernel_rfl
theorem tZ_117 : tSz Try.prog 117 = some 8 := by kernel_rfl
theorem tF_117_0 : tFld Try.prog 117 0 = some (0, 7) := by kernel_rfl
theorem tP_117_0 : tPlc Try.prog 117 0 = some (0, 7) := by kernel_rfl
theorem tFA_117_0 : tFldA Try.prog 117 0 = true := by kernel_rfl
theorem tFS_117_0 : tFldS Try.prog 117 0 = true := by kernel_rfl
theorem tF_117_1 : tFld Try.prog 117 1 = some (7, 1) := by kernel_rfl
theorem tP_117_1 : tPlc Try.prog 117 1 = some (7, 1) := by kernel_rfl
theorem tFA_117_1 : tFldA Try.prog 117 1 = false := by kernel_rfl
theorem tFS_117_1 : tFldS Try.prog 117 1 = true := by kernel_rfl
theorem tSt_117 : tIsSt Try.prog 117 = true := by kernel_rfl
theorem tS_119 : tSome Try.prog 119 = true := by kernel_rfl
theorem tA_119 : tAgg Try.prog 119 = true := by kernel_rfl
theorem tZ_119 : tSz Try.prog 119 = some 25 := by kernel_rfl
theorem tF_119_0 : tFld Try.prog 119 0 = some (0, 1) := by kernel_rfl
theorem tP_119_0 : tPlc Try.prog 119 0 = some (0, 1) := by kernel_rfl
theorem tFA_119_0 : tFldA Try.prog 119 0 = true := by kernel_rfl
theorem tFS_119_0 : tFldS Try.prog 119 0 = true := by kernel_rfl
theorem tF_119_1 : tFld Try.prog 119 1 = some (1, 1) := by kernel_rfl
theorem tP_119_1 : tPlc Try.prog 119 1 = some (1, 1) := by kernel_rfl
theorem tFA_119_1 : tFldA Try.prog 119 1 = false := by kernel_rfl
theorem tFS_119_1 : tFldS Try.prog 119 1 = true := by kernel_rfl
theorem tF_119_2 : tFld Try.prog 119 2 = some (2, 3) := by kernel_rfl
theorem tP_119_2 : tPlc Try.prog 119 2 = some (2, 3) := by kernel_rfl
theorem tFA_119_2 : tFldA Try.prog 119 2 = true := by kernel_rfl
theorem tFS_119_2 : tFldS Try.prog 119 2 = true := by kernel_rfl
theorem tF_119_3 : tFld Try.prog 119 3 = some (5, 1) := by kernel_rfl
theorem tP_119_3 : tPlc Try.prog 119 3 = some (5, 1) := by kernel_rfl
theorem tFA_119_3 : tFldA Try.prog 119 3 = false := by kernel_rfl
theorem tFS_119_3 : tFldS Try.prog 119 3 = true := by kernel_rfl
theorem tF_119_4 : tFld Try.prog 119 4 = some (6, 7) := by kernel_rfl
theorem tP_119_4 : tPlc Try.prog 119 4 = some (6, 7) := by kernel_rfl
theorem tFA_119_4 : tFldA Try.prog 119 4 = true := by kernel_rfl
theorem tFS_119_4 : tFldS Try.prog 119 4 = true := by kernel_rfl
theorem tF_119_5 : tFld Try.prog 119 5 = some (13, 1) := by kernel_rfl
theorem tP_119_5 : tPlc Try.prog 119 5 = some (13, 1) := by kernel_rfl
theorem tFA_119_5 : tFldA Try.prog 119 5 = false := by kernel_rfl
theorem tFS_119_5 : tFldS Try.prog 119 5 = true := by kernel_rfl
theorem tF_119_6 : tFld Try.prog 119 6 = some (14, 1) := by kernel_rfl
theorem tP_119_6 : tPlc Try.prog 119 6 = some (14, 1) := by kernel_rfl
theorem tFA_119_6 : tFldA Try.prog 119 6 = false := by kernel_rfl
theorem tFS_119_6 : tFldS Try.prog 119 6 = true := by kernel_rfl
theorem tF_119_7 : tFld Try.prog 119 7 = some (15, 1) := by kernel_rfl
theorem tP_119_7 : tPlc Try.prog 119 7 = some (15, 1) := by kernel_rfl
theorem tFA_119_7 : tFldA Try.prog 119 7 = false := by kernel_rfl
theorem tFS_119_7 : tFldS Try.prog 119 7 = true := by kernel_rfl
theorem tF_119_8 : tFld Try.prog 119 8 = some (16, 1) := by kernel_rfl
theorem tP_119_8 : tPlc Try.prog 119 8 = some (16, 1) := by kernel_rfl
theorem tFA_119_8 : tFldA Try.prog 119 8 = false := by kernel_rfl
theorem tFS_119_8 : tFldS Try.prog 119 8 = true := by kernel_rfl
theorem tF_119_9 : tFld Try.prog 119 9 = some (17, 8) := by kernel_rfl
theorem tP_119_9 : tPlc Try.prog 119 9 = some (17, 8) := by kernel_rfl
theorem tFA_119_9 : tFldA Try.prog 119 9 = true := by kernel_rfl
theorem tFS_119_9 : tFldS Try.prog 119 9 = true := by kernel_rfl
theorem tSt_119 : tIsSt Try.prog 119 = true := by kernel_rfl
theorem tS_123 : tSome Try.prog 123 = true := by kernel_rfl
theorem tA_123 : tAgg Try.prog 123 = false := by kernel_rfl
theorem tZ_123 : tSz Try.prog 123 = some 1 := by kernel_rfl
theorem tM_123 : tMap Try.prog 123 = some (.int .i64, 38) := by kernel_rfl
theorem tS_131 : tSome Try.prog 131 = true := by kernel_rfl
theorem tA_131 : tAgg Try.prog 131 = true := by kernel_rfl
theorem tZ_131 : tSz Try.prog 131 = some 12 := by kernel_rfl
theorem tF_131_0 : tFld Try.prog 131 0 = some (0, 7) := by kernel_rfl
theorem tP_131_0 : tPlc Try.prog 131 0 = some (0, 7) := by kernel_rfl
theorem tFA_131_0 : tFldA Try.prog 131 0 = true := by kernel_rfl
theorem tFS_131_0 : tFldS Try.prog 131 0 = true := by kernel_rfl
theorem tF_131_1 : tFld Try.prog 131 1 = some (7, 1) := by kernel_rfl
theorem tP_131_1 : tPlc Try.prog 131 1 = some (7, 1) := by kernel_rfl
theorem tFA_131_1 : tFldA Try.prog 131 1 = false := by kernel_rfl
theorem tFS_131_1 : tFldS Try.prog 131 1 = true := by kernel_rfl
theorem tF_131_2 : tFld Try.prog 131 2 = some (8, 1) := by kernel_rfl
theorem tP_131_2 : tPlc Try.prog 131 2 = some (8, 1) := by kernel_rfl
theorem tFA_131_2 : tFldA Try.prog 131 2 = false := by kernel_rfl
theorem tFS_131_2 : tFldS Try.prog 131 2 = true := by kernel_rfl
theorem tF_131_3 : tFld Try.prog 131 3 = some (9, 1) := by kernel_rfl
theorem tP_131_3 : tPlc Try.prog 131 3 = some (9, 1) := by kernel_rfl
theorem tFA_131_3 : tFldA Try.prog 131 3 = false := by kernel_rfl
theorem tFS_131_3 : tFldS Try.prog 131 3 = true := by kernel_rfl
theorem tF_131_4 : tFld Try.prog 131 4 = some (10, 1) := by kernel_rfl
theorem tP_131_4 : tPlc Try.prog 131 4 = some (10, 1) := by kernel_rfl
theorem tFA_131_4 : tFldA Try.prog 131 4 = false := by kernel_rfl
theorem tFS_131_4 : tFldS Try.prog 131 4 = true := by kernel_rfl
theorem tF_131_5 : tFld Try.prog 131 5 = some (11, 1) := by kernel_rfl
theorem tP_131_5 : tPlc Try.prog 131 5 = some (11, 1) := by kernel_rfl
theorem tFA_131_5 : tFldA Try.prog 131 5 = false := by kernel_rfl
theorem tFS_131_5 : tFldS Try.prog 131 5 = true := by kernel_rfl
theorem tSt_131 : tIsSt Try.prog 131 = true := by kernel_rfl
theorem tS_133 : tSome Try.prog 133 = true := by kernel_rfl
theorem tA_133 : tAgg Try.prog 133 = true := by kernel_rfl
theorem tZ_133 : tSz Try.prog 133 = some 8 := by kernel_rfl
theorem tAy_133 : tAry Try.prog 133 = some (8, 1) := by kernel_rfl
theorem tAr_133 : tArr Try.prog 133 = some (8, 1, false) := by kernel_rfl
theorem tP_133_0 : tPlc Try.prog 133 0 = some (0, 1) := by kernel_rfl
theorem tP_133_1 : tPlc Try.prog 133 1 = some (1, 1) := by kernel_rfl
theorem tP_133_2 : tPlc Try.prog 133 2 = some (2, 1) := by kernel_rfl
theorem tP_133_3 : tPlc Try.prog 133 3 = some (3, 1) := by kernel_rfl
theorem tP_133_4 : tPlc Try.prog 133 4 = some (4, 1) := by kernel_rfl
theorem tP_133_5 : tPlc Try.prog 133 5 = some (5, 1) := by kernel_rfl
theorem tP_133_6 : tPlc Try.prog 133 6 = some (6, 1) := by kernel_rfl
theorem tP_133_7 : tPlc Try.prog 133 7 = some (7, 1) := by kernel_rfl
theorem tSt_133 : tIsSt Try.prog 133 = true := by kernel_rfl
theorem tArS_133 : qIndex.tArrS Try.prog 133 = true := by kernel_rfl
theorem tS_143 : tSome Try.prog 143 = true := by kernel_rfl
theorem tA_143 : tAgg Try.prog 143 = false := by kernel_rfl
theorem tZ_143 : tSz Try.prog 143 = some 1 := by kernel_rfl
theorem tI_143 : tInt Try.prog 143 = some .u64 := by kernel_rfl
def zs : TypeId → AV
  | 24 => .agg [.nilsl]
  | 38 => .agg [.nilsl, .int .i64 0, .nilsl, .int .i64 0, .int .i64 0, .int .i64 0, .nilsl]
  | 47 => .agg [.str [], .int .i64 0, .int .i64 0]
  | 54 => .agg [.nilsl, .nilsl, .nilsl, .nilsl, .nilsl]
  | 63 => .agg [.agg [.nilsl, .nilsl, .nilsl, .nilsl, .nilsl], .nilsl]
  | 71 => .agg [.nilsl, .nilsl, .nilsl, .nilsl]
  | 89 => .agg [.bool false, .int .i64 0, .nilsl, .agg [.int .i64 0, .int .i64 0, .int .i64 0, .int .i64 0, .int .i64 0], .nilp]
  | 96 => .agg [.int .i64 0, .int .i64 0, .nilsl, .int .i64 0, .agg [.nilsl, .int .i64 0, .nilsl, .int .i64 0, .int .i64 0, .int .i64 0, .nilsl], .nilp]
  | 101 => .agg [.nilp]
  | 103 => .agg [.agg [.nilp], .nilp]
  | 105 => .agg [.agg [.nilp], .nilp]
  | 111 => .agg [.int .i64 0]
  | 115 => .agg [.nilf, .nilf, .nilf]
  | 117 => .agg [.agg [.nilsl, .int .i64 0, .nilsl, .int .i64 0, .int .i64 0, .int .i64 0, .nilsl], .bool false]
  | 119 => .agg [.agg [.nilsl], .int .i64 0, .agg [.nilf, .nilf, .nilf], .bool false, .agg [.nilsl, .int .i64 0, .nilsl, .int .i64 0, .int .i64 0, .int .i64 0, .nilsl], .int .i64 0, .int .i64 0, .int .i64 0, .bool false, .agg [.agg [.nilsl, .int .i64 0, .nilsl, .int .i64 0, .int .i64 0, .int .i64 0, .nilsl], .bool false]]
  | 131 => .agg [.agg [.nilsl, .int .i64 0, .nilsl, .int .i64 0, .int .i64 0, .int .i64 0, .nilsl], .bool false, .bool false, .bool false, .bool false, .int .i64 0]
  | 133 => .agg [.nilf, .nilf, .nilf, .nilf, .nilf, .nilf, .nilf, .nilf]
  | _ => .junk
def zo (t : TypeId) : AV := if t = 4294967295 then .bool true else zs t
theorem zs_m : zs 4294967295 = .junk := rfl
theorem zo_m : zo 4294967295 = .bool true := rfl
theorem zs_24 : zs 24 = .agg [.nilsl] := rfl
theorem zo_24 : zo 24 = .agg [.nilsl] := rfl
theorem zi_24 : ZeroIs Try.prog 24 (.agg [.nilsl]) := zeroIs_of rfl (.agg #[.slice none 0 0]) (by kernel_rfl) rfl
theorem zs_38 : zs 38 = .agg [.nilsl, .int .i64 0, .nilsl, .int .i64 0, .int .i64 0, .int .i64 0, .nilsl] := rfl
theorem zo_38 : zo 38 = .agg [.nilsl, .int .i64 0, .nilsl, .int .i64 0, .int .i64 0, .int .i64 0, .nilsl] := rfl
theorem zi_38 : ZeroIs Try.prog 38 (.agg [.nilsl, .int .i64 0, .nilsl, .int .i64 0, .int .i64 0, .int .i64 0, .nilsl]) := zeroIs_of rfl (.agg #[.slice none 0 0, .int .i64 0, .slice none 0 0, .int .i64 0, .int .i64 0, .int .i64 0, .slice none 0 0]) (by kernel_rfl) rfl
theorem zs_47 : zs 47 = .agg [.str [], .int .i64 0, .int .i64 0] := rfl
theorem zo_47 : zo 47 = .agg [.str [], .int .i64 0, .int .i64 0] := rfl
theorem zi_47 : ZeroIs Try.prog 47 (.agg [.str [], .int .i64 0, .int .i64 0]) := zeroIs_of rfl (.agg #[.string ⟨#[]⟩, .int .i64 0, .int .i64 0]) (by kernel_rfl) rfl
theorem zs_54 : zs 54 = .agg [.nilsl, .nilsl, .nilsl, .nilsl, .nilsl] := rfl
theorem zo_54 : zo 54 = .agg [.nilsl, .nilsl, .nilsl, .nilsl, .nilsl] := rfl
theorem zi_54 : ZeroIs Try.prog 54 (.agg [.nilsl, .nilsl, .nilsl, .nilsl, .nilsl]) := zeroIs_of rfl (.agg #[.slice none 0 0, .slice none 0 0, .slice none 0 0, .slice none 0 0, .slice none 0 0]) (by kernel_rfl) rfl
theorem zs_63 : zs 63 = .agg [.agg [.nilsl, .nilsl, .nilsl, .nilsl, .nilsl], .nilsl] := rfl
theorem zo_63 : zo 63 = .agg [.agg [.nilsl, .nilsl, .nilsl, .nilsl, .nilsl], .nilsl] := rfl
theorem zi_63 : ZeroIs Try.prog 63 (.agg [.agg [.nilsl, .nilsl, .nilsl, .nilsl, .nilsl], .nilsl]) := zeroIs_of rfl (.agg #[.slice none 0 0, .slice none 0 0, .slice none 0 0, .slice none 0 0, .slice none 0 0, .slice none 0 0]) (by kernel_rfl) rfl
theorem zs_71 : zs 71 = .agg [.nilsl, .nilsl, .nilsl, .nilsl] := rfl
theorem zo_71 : zo 71 = .agg [.nilsl, .nilsl, .nilsl, .nilsl] := rfl
theorem zi_71 : ZeroIs Try.prog 71 (.agg [.nilsl, .nilsl, .nilsl, .nilsl]) := zeroIs_of rfl (.agg #[.slice none 0 0, .slice none 0 0, .slice none 0 0, .slice none 0 0]) (by kernel_rfl) rfl
theorem zs_89 : zs 89 = .agg [.bool false, .int .i64 0, .nilsl, .agg [.int .i64 0, .int .i64 0, .int .i64 0, .int .i64 0, .int .i64 0], .nilp] := rfl
theorem zo_89 : zo 89 = .agg [.bool false, .int .i64 0, .nilsl, .agg [.int .i64 0, .int .i64 0, .int .i64 0, .int .i64 0, .int .i64 0], .nilp] := rfl
theorem zi_89 : ZeroIs Try.prog 89 (.agg [.bool false, .int .i64 0, .nilsl, .agg [.int .i64 0, .int .i64 0, .int .i64 0, .int .i64 0, .int .i64 0], .nilp]) := zeroIs_of rfl (.agg #[.bool false, .int .i64 0, .slice none 0 0, .int .i64 0, .int .i64 0, .int .i64 0, .int .i64 0, .int .i64 0, .pointer none]) (by kernel_rfl) rfl
theorem zs_96 : zs 96 = .agg [.int .i64 0, .int .i64 0, .nilsl, .int .i64 0, .agg [.nilsl, .int .i64 0, .nilsl, .int .i64 0, .int .i64 0, .int .i64 0, .nilsl], .nilp] := rfl
theorem zo_96 : zo 96 = .agg [.int .i64 0, .int .i64 0, .nilsl, .int .i64 0, .agg [.nilsl, .int .i64 0, .nilsl, .int .i64 0, .int .i64 0, .int .i64 0, .nilsl], .nilp] := rfl
theorem zi_96 : ZeroIs Try.prog 96 (.agg [.int .i64 0, .int .i64 0, .nilsl, .int .i64 0, .agg [.nilsl, .int .i64 0, .nilsl, .int .i64 0, .int .i64 0, .int .i64 0, .nilsl], .nilp]) := zeroIs_of rfl (.agg #[.int .i64 0, .int .i64 0, .slice none 0 0, .int .i64 0, .slice none 0 0, .int .i64 0, .slice none 0 0, .int .i64 0, .int .i64 0, .int .i64 0, .slice none 0 0, .pointer none]) (by kernel_rfl) rfl
theorem zs_101 : zs 101 = .agg [.nilp] := rfl
theorem zo_101 : zo 101 = .agg [.nilp] := rfl
theorem zi_101 : ZeroIs Try.prog 101 (.agg [.nilp]) := zeroIs_of rfl (.agg #[.pointer none]) (by kernel_rfl) rfl
theorem zs_103 : zs 103 = .agg [.agg [.nilp], .nilp] := rfl
theorem zo_103 : zo 103 = .agg [.agg [.nilp], .nilp] := rfl
theorem zi_103 : ZeroIs Try.prog 103 (.agg [.agg [.nilp], .nilp]) := zeroIs_of rfl (.agg #[.pointer none, .pointer none]) (by kernel_rfl) rfl
theorem zs_105 : zs 105 = .agg [.agg [.nilp], .nilp] := rfl
theorem zo_105 : zo 105 = .agg [.agg [.nilp], .nilp] := rfl
theorem zi_105 : ZeroIs Try.prog 105 (.agg [.agg [.nilp], .nilp]) := zeroIs_of rfl (.agg #[.pointer none, .pointer none]) (by kernel_rfl) rfl
theorem zs_111 : zs 111 = .agg [.int .i64 0] := rfl
theorem zo_111 : zo 111 = .agg [.int .i64 0] := rfl
theorem zi_111 : ZeroIs Try.prog 111 (.agg [.int .i64 0]) := zeroIs_of rfl (.agg #[.int .i64 0]) (by kernel_rfl) rfl
theorem zs_115 : zs 115 = .agg [.nilf, .nilf, .nilf] := rfl
theorem zo_115 : zo 115 = .agg [.nilf, .nilf, .nilf] := rfl
theorem zi_115 : ZeroIs Try.prog 115 (.agg [.nilf, .nilf, .nilf]) := zeroIs_of rfl (.agg #[.nilFunc, .nilFunc, .nilFunc]) (by kernel_rfl) rfl
theorem zs_117 : zs 117 = .agg [.agg [.nilsl, .int .i64 0, .nilsl, .int .i64 0, .int .i64 0, .int .i64 0, .nilsl], .bool false] := rfl
theorem zo_117 : zo 117 = .agg [.agg [.nilsl, .int .i64 0, .nilsl, .int .i64 0, .int .i64 0, .int .i64 0, .nilsl], .bool false] := rfl
theorem zi_117 : ZeroIs Try.prog 117 (.agg [.agg [.nilsl, .int .i64 0, .nilsl, .int .i64 0, .int .i64 0, .int .i64 0, .nilsl], .bool false]) := zeroIs_of rfl (.agg #[.slice none 0 0, .int .i64 0, .slice none 0 0, .int .i64 0, .int .i64 0, .int .i64 0, .slice none 0 0, .bool false]) (by kernel_rfl) rfl
theorem zs_119 : zs 119 = .agg [.agg [.nilsl], .int .i64 0, .agg [.nilf, .nilf, .nilf], .bool false, .agg [.nilsl, .int .i64 0, .nilsl, .int .i64 0, .int .i64 0, .int .i64 0, .nilsl], .int .i64 0, .int .i64 0, .int .i64 0, .bool false, .agg [.agg [.nilsl, .int .i64 0, .nilsl, .int .i64 0, .int .i64 0, .int .i64 0, .nilsl], .bool false]] := rfl
theorem zo_119 : zo 119 = .agg [.agg [.nilsl], .int .i64 0, .agg [.nilf, .nilf, .nilf], .bool false, .agg [.nilsl, .int .i64 0, .nilsl, .int .i64 0, .int .i64 0, .int .i64 0, .nilsl], .int .i64 0, .int .i64 0, .int .i64 0, .bool false, .agg [.agg [.nilsl, .int .i64 0, .nilsl, .int .i64 0, .int .i64 0, .int .i64 0, .nilsl], .bool false]] := rfl
theorem zi_119 : ZeroIs Try.prog 119 (.agg [.agg [.nilsl], .int .i64 0, .agg [.nilf, .nilf, .nilf], .bool false, .agg [.nilsl, .int .i64 0, .nilsl, .int .i64 0, .int .i64 0, .int .i64 0, .nilsl], .int .i64 0, .int .i64 0, .int .i64 0, .bool false, .agg [.agg [.nilsl, .int .i64 0, .nilsl, .int .i64 0, .int .i64 0, .int .i64 0, .nilsl], .bool false]]) := zeroIs_of rfl (.agg #[.slice none 0 0, .int .i64 0, .nilFunc, .nilFunc, .nilFunc, .bool false, .slice none 0 0, .int .i64 0, .slice none 0 0, .int .i64 0, .int .i64 0, .int .i64 0, .slice none 0 0, .int .i64 0, .int .i64 0, .int .i64 0, .bool false, .slice none 0 0, .int .i64 0, .slice none 0 0, .int .i64 0, .int .i64 0, .int .i64 0, .slice none 0 0, .bool false]) (by kernel_rfl) rfl
theorem zs_131 : zs 131 = .agg [.agg [.nilsl, .int .i64 0, .nilsl, .int .i64 0, .int .i64 0, .int .i64 0, .nilsl], .bool false, .bool false, .bool false, .bool false, .int .i64 0] := rfl
theorem zo_131 : zo 131 = .agg [.agg [.nilsl, .int .i64 0, .nilsl, .int .i64 0, .int .i64 0, .int .i64 0, .nilsl], .bool false, .bool false, .bool false, .bool false, .int .i64 0] := rfl
theorem zi_131 : ZeroIs Try.prog 131 (.agg [.agg [.nilsl, .int .i64 0, .nilsl, .int .i64 0, .int .i64 0, .int .i64 0, .nilsl], .bool false, .bool false, .bool false, .bool false, .int .i64 0]) := zeroIs_of rfl (.agg #[.slice none 0 0, .int .i64 0, .slice none 0 0, .int .i64 0, .int .i64 0, .int .i64 0, .slice none 0 0, .bool false, .bool false, .bool false, .bool false, .int .i64 0]) (by kernel_rfl) rfl
theorem zs_133 : zs 133 = .agg [.nilf, .nilf, .nilf, .nilf, .nilf, .nilf, .nilf, .nilf] := rfl
theorem zo_133 : zo 133 = .agg [.nilf, .nilf, .nilf, .nilf, .nilf, .nilf, .nilf, .nilf] := rfl
theorem zi_133 : ZeroIs Try.prog 133 (.agg [.nilf, .nilf, .nilf, .nilf, .nilf, .nilf, .nilf, .nilf]) := zeroIs_of rfl (.agg #[.nilFunc, .nilFunc, .nilFunc, .nilFunc, .nilFunc, .nilFunc, .nilFunc, .nilFunc]) (by kernel_rfl) rfl
attribute [go_sem] tS_1 tA_1 tZ_1 tS_3 tA_3 tZ_3 tI_3 tS_4 tA_4 tZ_4 tBo_4 tS_5 tA_5 tZ_5 tI_5 tS_9 tA_9 tZ_9 tStr_9 tS_22 tA_22 tZ_22 tE_22 tEl_22 tSl_22 tBy_22 tS_24 tA_24 tZ_24 tF_24_0 tP_24_0 tFA_24_0 tFS_24_0 tSt_24 tS_25 tA_25 tZ_25 tE_25 tEl_25 tSl_25 tBy_25 tS_30 tA_30 tZ_30 tI_30 tS_36 tA_36 tZ_36 tE_36 tEl_36 tSl_36 tBy_36 tS_38 tA_38 tZ_38 tF_38_0 tP_38_0 tFA_38_0 tFS_38_0 tF_38_1 tP_38_1 tFA_38_1 tFS_38_1 tF_38_2 tP_38_2 tFA_38_2 tFS_38_2 tF_38_3 tP_38_3 tFA_38_3 tFS_38_3 tF_38_4 tP_38_4 tFA_38_4 tFS_38_4 tF_38_5 tP_38_5 tFA_38_5 tFS_38_5 tF_38_6 tP_38_6 tFA_38_6 tFS_38_6 tSt_38 tS_41 tA_41 tZ_41 tE_41 tEl_41 tSl_41 tBy_41 tS_47 tA_47 tZ_47 tF_47_0 tP_47_0 tFA_47_0 tFS_47_0 tF_47_1 tP_47_1 tFA_47_1 tFS_47_1 tF_47_2 tP_47_2 tFA_47_2 tFS_47_2 tSt_47 tS_51 tA_51 tZ_51 tE_51 tEl_51 tSl_51 tBy_51 tS_52 tA_52 tZ_52 tE_52 tEl_52 tSl_52 tBy_52 tS_54 tA_54 tZ_54 tF_54_0 tP_54_0 tFA_54_0 tFS_54_0 tF_54_1 tP_54_1 tFA_54_1 tFS_54_1 tF_54_2 tP_54_2 tFA_54_2 tFS_54_2 tF_54_3 tP_54_3 tFA_54_3 tFS_54_3 tF_54_4 tP_54_4 tFA_54_4 tFS_54_4 tSt_54 tS_60 tA_60 tZ_60 tF_60_0 tP_60_0 tFA_60_0 tFS_60_0 tF_60_1 tP_60_1 tFA_60_1 tFS_60_1 tF_60_2 tP_60_2 tFA_60_2 tFS_60_2 tF_60_3 tP_60_3 tFA_60_3 tFS_60_3 tF_60_4 tP_60_4 tFA_60_4 tFS_60_4 tF_60_5 tP_60_5 tFA_60_5 tFS_60_5 tF_60_6 tP_60_6 tFA_60_6 tFS_60_6 tSt_60 tS_63 tA_63 tZ_63 tF_63_0 tP_63_0 tFA_63_0 tFS_63_0 tF_63_1 tP_63_1 tFA_63_1 tFS_63_1 tSt_63 tS_65 tA_65 tZ_65 tPt_65 tS_68 tA_68 tZ_68 tPt_68 tS_71 tA_71 tZ_71 tAy_71 tAr_71 tP_71_0 tP_71_1 tP_71_2 tP_71_3 tSt_71 tArS_71 tS_82 tA_82 tZ_82 tPt_82 tS_83 tA_83 tZ_83 tPt_83 tS_87 tA_87 tZ_87 tF_87_0 tP_87_0 tFA_87_0 tFS_87_0 tF_87_1 tP_87_1 tFA_87_1 tFS_87_1 tF_87_2 tP_87_2 tFA_87_2 tFS_87_2 tF_87_3 tP_87_3 tFA_87_3 tFS_87_3 tF_87_4 tP_87_4 tFA_87_4 tFS_87_4 tSt_87 tS_89 tA_89 tZ_89 tF_89_0 tP_89_0 tFA_89_0 tFS_89_0 tF_89_1 tP_89_1 tFA_89_1 tFS_89_1 tF_89_2 tP_89_2 tFA_89_2 tFS_89_2 tF_89_3 tP_89_3 tFA_89_3 tFS_89_3 tF_89_4 tP_89_4 tFA_89_4 tFS_89_4 tSt_89 tS_92 tA_92 tZ_92 tPt_92 tS_96 tA_96 tZ_96 tF_96_0 tP_96_0 tFA_96_0 tFS_96_0 tF_96_1 tP_96_1 tFA_96_1 tFS_96_1 tF_96_2 tP_96_2 tFA_96_2 tFS_96_2 tF_96_3 tP_96_3 tFA_96_3 tFS_96_3 tF_96_4 tP_96_4 tFA_96_4 tFS_96_4 tF_96_5 tP_96_5 tFA_96_5 tFS_96_5 tSt_96 tS_101 tA_101 tZ_101 tF_101_0 tP_101_0 tFA_101_0 tFS_101_0 tSt_101 tS_103 tA_103 tZ_103 tF_103_0 tP_103_0 tFA_103_0 tFS_103_0 tF_103_1 tP_103_1 tFA_103_1 tFS_103_1 tSt_103 tS_105 tA_105 tZ_105 tF_105_0 tP_105_0 tFA_105_0 tFS_105_0 tF_105_1 tP_105_1 tFA_105_1 tFS_105_1 tSt_105 tS_111 tA_111 tZ_111 tF_111_0 tP_111_0 tFA_111_0 tFS_111_0 tSt_111 tS_112 tA_112 tZ_112 tS_113 tA_113 tZ_113 tS_115 tA_115 tZ_115 tF_115_0 tP_115_0 tFA_115_0 tFS_115_0 tF_115_1 tP_115_1 tFA_115_1 tFS_115_1 tF_115_2 tP_115_2 tFA_115_2 tFS_115_2 tSt_115 tS_117 tA_117 tZ_117 tF_117_0 tP_117_0 tFA_117_0 tFS_117_0 tF_117_1 tP_117_1 tFA_117_1 tFS_117_1 tSt_117 tS_119 tA_119 tZ_119 tF_119_0 tP_119_0 tFA_119_0 tFS_119_0 tF_119_1 tP_119_1 tFA_119_1 tFS_119_1 tF_119_2 tP_119_2 tFA_119_2 tFS_119_2 tF_119_3 tP_119_3 tFA_119_3 tFS_119_3 tF_119_4 tP_119_4 tFA_119_4 tFS_119_4 tF_119_5 tP_119_5 tFA_119_5 tFS_119_5 tF_119_6 tP_119_6 tFA_119_6 tFS_119_6 tF_119_7 tP_119_7 tFA_119_7 tFS_119_7 tF_119_8 tP_119_8 tFA_119_8 tFS_119_8 tF_119_9 tP_119_9 tFA_119_9 tFS_119_9 tSt_119 tS_123 tA_123 tZ_123 tM_123 tS_131 tA_131 tZ_131 tF_131_0 tP_131_0 tFA_131_0 tFS_131_0 tF_131_1 tP_131_1 tFA_131_1 tFS_131_1 tF_131_2 tP_131_2 tFA_131_2 tFS_131_2 tF_131_3 tP_131_3 tFA_131_3 tFS_131_3 tF_131_4 tP_131_4 tFA_131_4 tFS_131_4 tF_131_5 tP_131_5 tFA_131_5 tFS_131_5 tSt_131 tS_133 tA_133 tZ_133 tAy_133 tAr_133 tP_133_0 tP_133_1 tP_133_2 tP_133_3 tP_133_4 tP_133_5 tP_133_6 tP_133_7 tSt_133 tArS_133 tS_143 tA_143 tZ_143 tI_143 zs_m zo_m zs_24 zo_24 zi_24 zs_38 zo_38 zi_38 zs_47 zo_47 zi_47 zs_54 zo_54 zi_54 zs_63 zo_63 zi_63 zs_71 zo_71 zi_71 zs_89 zo_89 zi_89 zs_96 zo_96 zi_96 zs_101 zo_101 zi_101 zs_103 zo_103 zi_103 zs_105 zo_105 zi_105 zs_111 zo_111 zi_111 zs_115 zo_115 zi_115 zs_117 zo_117 zi_117 zs_119 zo_119 zi_119 zs_131 zo_131 zi_131 zs_133 zo_133 zi_133
end Go.Proofs.Ytijhkfhflpmajaa
namespace Go.Proofs.Ytijhkfhflpmajaa
open Go Go.Sx Go.Rt Go.Proofs
theorem c_cell_outside (x lo hi : Int) (H : Heap) (n : Nat) : Ret Try.prog 65 [.int .i64 x, .int .i64 lo, .int .i64 hi] H n (.bool (bout x lo hi)) H n := by
  refine acalls_of_awp Try.func65 rfl Try.ntmps65 (congrArg Array.toList Try.results65) (by simp) ?_
  simp only [go_sem]
  refine awp_rq zs [0, 1, 2] ?_
  refine awp_rq zs [6] ?_
  refine awp_ret ?_
  try simp only [go_sem, seval]
  unfold bout; by_cases h : x < lo <;> simp [h]
theorem c_retain_outside (x : Int) (H : Heap) (n : Nat) : Ret Try.prog 74 [.int .i64 x] H n (.bool (bout x 0 1099511627776)) H n := by
  refine acalls_of_awp Try.func74 rfl Try.ntmps74 (congrArg Array.toList Try.results74) (by simp) ?_
  simp only [go_sem]
  refine awp_rq zs [0] ?_
  refine awp_rq zs [2] ?_
  refine awp_ret ?_
  try simp only [go_sem, seval]
  unfold bout; by_cases h : x < 0 <;> simp [h]
theorem c_cell_letter (b : UInt8) (H : Heap) (n : Nat) : Ret Try.prog 99 [byteAV b] H n (.bool (letterB b)) H n := by
  refine acalls_of_awp Try.func99 rfl Try.ntmps99 (congrArg Array.toList Try.results99) (by simp) ?_
  simp only [go_sem]
  refine awp_rq zs [0] ?_
  refine awp_rq zs [2] ?_
  refine awp_ret ?_
  try simp only [go_sem, seval]
  unfold letterB; by_cases h : 97 ≤ (b.toNat : Int) <;> simp [h]
theorem c_bytes_Equal (a b : List UInt8) (H : Heap) (n : Nat) : Ret Try.prog 80 [bys a, bys b] H n (.bool (a == b)) H n := by
  refine acalls_of_awp Try.func80 rfl Try.ntmps80 (congrArg Array.toList Try.results80) (by simp) ?_
  simp only [go_sem]
  refine awp_reg zs [0, 1] fun K hK => ?_
  try simp only [go_sem, seval]
  repeat (first | (refine And.intro ?_ ?_; · first | exact bys_isByte _ | trivial) | refine peel ?_)
  refine hK _ _ _ ?_; clear hK K
  refine awp_reg zs [4] fun K hK => ?_
  try simp only [go_sem, seval]
  repeat (first | (refine And.intro ?_ ?_; · first | exact bys_isByte _ | trivial) | refine peel ?_)
  refine hK _ _ _ ?_; clear hK K
  refine awp_ret ?_
  try simp only [go_sem, seval]
  rw [map_byteOf, map_byteOf]
theorem c_cmp_isNaN (a : Int) (H : Heap) (n : Nat) : Ret Try.prog 102 [.int .i64 a] H n (.bool false) H n := by
  refine acalls_of_awp Try.func102 rfl Try.ntmps102 (congrArg Array.toList Try.results102) (by simp) ?_
  simp only [go_sem]
  refine awp_rq zs [0] ?_
  refine awp_rq zs [2] ?_
  refine awp_ret ?_
  try simp only [go_sem, seval]
  simp
theorem c_cell_first (kk : Int) (a b : Ent) (H : Heap) (n : Nat) : Ret Try.prog 93 [.int .i64 kk, entAV a, entAV b] H n (.int .i64 (if a.kind = kk then (if b.kind = kk then 0 else -1) else (if b.kind = kk then 1 else 0))) H n := by
  refine Ret.fin ?_
  refine acalls_of_awp Try.func93 rfl Try.ntmps93 (congrArg Array.toList Try.results93) (by simp) ?_
  simp only [go_sem]
  refine awp_rq zs [0, 4, 5] ?_
  refine awp_drw rfl zs [7, 8] [.q, .q, .m, .q, .q, .q, .m, .q, .q, .q] (by kernel_rfl) (fun _ _ _ _ _ h => h) fun K hK => ?_
  try simp only [go_sem, seval]
  repeat refine peel ?_
  refine hK _ _ _ ?_; clear hK K
  refine awp_seq_k fun K1 hK1 => ?_
  refine awp_block ?_
  refine awp_rq zs [7, 17] ?_
  refine awp_cnd (fun hb => ?_) (fun hb => ?_)
  ·skip
   refine awp_rq zs [6] ?_
   refine awp_ret ?_
   try simp only [go_sem, seval]
   refine ⟨_, rfl, ?_, Frz.eq ?_ trivial⟩
   · intro k hk; have h0 : k ≠ n := by omega
     have h1 : ∀ j, k ≠ n + j := fun j => by omega
     simp [Heap.put, h0, h1]
   by_cases ha : a.kind = kk <;> by_cases hb' : b.kind = kk <;> simp_all
  ·skip
   refine awp_rq zs [21] ?_
   refine awp_cnd (fun hb => ?_) (fun hb => ?_)
   ·skip
    refine awp_rq zs [6] ?_
    refine awp_ret ?_
    try simp only [go_sem, seval]
    refine ⟨_, rfl, ?_, Frz.eq ?_ trivial⟩
    · intro k hk; have h0 : k ≠ n := by omega
      have h1 : ∀ j, k ≠ n + j := fun j => by omega
      simp [Heap.put, h0, h1]
    by_cases ha : a.kind = kk <;> by_cases hb' : b.kind = kk <;> simp_all
   ·skip
    refine awp_skip ?_
    try simp only [go_sem, seval]
    refine hK1 _ _ _ ?_
    first | clear hK1 K1 | skip
    refine awp_rq zs [6] ?_
    refine awp_ret ?_
    try simp only [go_sem, seval]
    refine ⟨_, rfl, ?_, Frz.eq ?_ trivial⟩
    · intro k hk; have h0 : k ≠ n := by omega
      have h1 : ∀ j, k ≠ n + j := fun j => by omega
      simp [Heap.put, h0, h1]
    by_cases ha : a.kind = kk <;> by_cases hb' : b.kind = kk <;> simp_all
end Go.Proofs.Ytijhkfhflpmajaa
namespace Go.Proofs.Ytijhkfhflpmajaa
open Go Go.Sx Go.Rt Go.Proofs
theorem c_cell_Check (e : Ent) (H : Heap) (n : Nat) : Ret Try.prog 45 [entAV e] H n (.int .i64 (checkE e)) H n := by
  refine Ret.fin ?_
  refine acalls_of_awp Try.func45 rfl Try.ntmps45 (congrArg Array.toList Try.results45) (by simp) ?_
  simp only [go_sem]
  refine awp_rq zs [1] ?_
  refine awp_seq_k fun K1 hK1 => ?_
  refine awp_block ?_
  refine awp_reg zs [1, 3] fun K hK => ?_
  try simp only [go_sem, seval]
  repeat refine peel ?_
  refine callK_use Try.func65 rfl rfl rfl ((by apply c_cell_outside <;> first | assumption | omega)) ?_
  try simp only [go_sem, seval]
  repeat refine peel ?_
  refine hK _ _ _ ?_; clear hK K
  refine awp_cnd (fun hb => ?_) (fun hb => ?_)
  ·skip
   refine awp_rq zs [2] ?_
   refine awp_ret ?_
   try simp only [go_sem, seval]
   refine ⟨_, rfl, ?_, Frz.eq ?_ trivial⟩
   · intro k hk; have h0 : k ≠ n := by omega
     have h1 : ∀ j, k ≠ n + j := fun j => by omega
     simp [Heap.put, h0, h1]
   simp only [List.length_map] at *
   simp only [checkE, badQ, badV, *, ↓reduceIte, Bool.false_eq_true]
  ·skip
   refine awp_reg zs [1, 8] fun K hK => ?_
   try simp only [go_sem, seval]
   repeat refine peel ?_
   refine callK_use Try.func65 rfl rfl rfl ((by apply c_cell_outside <;> first | assumption | omega)) ?_
   try simp only [go_sem, seval]
   repeat refine peel ?_
   refine hK _ _ _ ?_; clear hK K
   refine awp_cnd (fun hb => ?_) (fun hb => ?_)
   ·skip
    refine awp_rq zs [2] ?_
    refine awp_ret ?_
    try simp only [go_sem, seval]
    refine ⟨_, rfl, ?_, Frz.eq ?_ trivial⟩
    · intro k hk; have h0 : k ≠ n := by omega
      have h1 : ∀ j, k ≠ n + j := fun j => by omega
      simp [Heap.put, h0, h1]
    simp only [List.length_map] at *
    simp only [checkE, badQ, badV, *, ↓reduceIte, Bool.false_eq_true]
   ·skip
    refine awp_rq zs [1, 12] ?_
    refine awp_cnd (fun hb => ?_) (fun hb => ?_)
    ·skip
     refine awp_rq zs [2] ?_
     refine awp_ret ?_
     try simp only [go_sem, seval]
     refine ⟨_, rfl, ?_, Frz.eq ?_ trivial⟩
     · intro k hk; have h0 : k ≠ n := by omega
       have h1 : ∀ j, k ≠ n + j := fun j => by omega
       simp [Heap.put, h0, h1]
     simp only [List.length_map] at *
     simp only [checkE, badQ, badV, *, ↓reduceIte, Bool.false_eq_true]
    ·skip
     refine awp_reg zs [1, 28] fun K hK => ?_
     try simp only [go_sem, seval]
     repeat refine peel ?_
     refine callK_use Try.func65 rfl rfl rfl ((by apply c_cell_outside <;> first | assumption | omega)) ?_
     try simp only [go_sem, seval]
     repeat refine peel ?_
     refine hK _ _ _ ?_; clear hK K
     refine awp_cnd (fun hb => ?_) (fun hb => ?_)
     ·skip
      refine awp_rq zs [2] ?_
      refine awp_ret ?_
      try simp only [go_sem, seval]
      refine ⟨_, rfl, ?_, Frz.eq ?_ trivial⟩
      · intro k hk; have h0 : k ≠ n := by omega
        have h1 : ∀ j, k ≠ n + j := fun j => by omega
        simp [Heap.put, h0, h1]
      simp only [List.length_map] at *
      simp only [checkE, badQ, badV, *, ↓reduceIte, Bool.false_eq_true]
     ·skip
      refine awp_reg zs [1, 32] fun K hK => ?_
      try simp only [go_sem, seval]
      repeat refine peel ?_
      refine callK_use Try.func65 rfl rfl rfl ((by apply c_cell_outside <;> first | assumption | omega)) ?_
      try simp only [go_sem, seval]
      repeat refine peel ?_
      refine hK _ _ _ ?_; clear hK K
      refine awp_cnd (fun hb => ?_) (fun hb => ?_)
      ·skip
       refine awp_rq zs [2] ?_
       refine awp_ret ?_
       try simp only [go_sem, seval]
       refine ⟨_, rfl, ?_, Frz.eq ?_ trivial⟩
       · intro k hk; have h0 : k ≠ n := by omega
         have h1 : ∀ j, k ≠ n + j := fun j => by omega
         simp [Heap.put, h0, h1]
       simp only [List.length_map] at *
       simp only [checkE, badQ, badV, *, ↓reduceIte, Bool.false_eq_true]
      ·skip
       refine awp_reg zs [1, 36] fun K hK => ?_
       try simp only [go_sem, seval]
       repeat refine peel ?_
       refine callK_use Try.func65 rfl rfl rfl ((by apply c_cell_outside <;> first | assumption | omega)) ?_
       try simp only [go_sem, seval]
       repeat refine peel ?_
       refine hK _ _ _ ?_; clear hK K
       refine awp_cnd (fun hb => ?_) (fun hb => ?_)
       ·skip
        refine awp_rq zs [2] ?_
        refine awp_ret ?_
        try simp only [go_sem, seval]
        refine ⟨_, rfl, ?_, Frz.eq ?_ trivial⟩
        · intro k hk; have h0 : k ≠ n := by omega
          have h1 : ∀ j, k ≠ n + j := fun j => by omega
          simp [Heap.put, h0, h1]
        simp only [List.length_map] at *
        simp only [checkE, badQ, badV, *, ↓reduceIte, Bool.false_eq_true]
       ·skip
        refine awp_rq zs [40] ?_
        refine awp_cnd (fun hb => ?_) (fun hb => ?_)
        ·skip
         refine awp_rq zs [2] ?_
         refine awp_ret ?_
         try simp only [go_sem, seval]
         refine ⟨_, rfl, ?_, Frz.eq ?_ trivial⟩
         · intro k hk; have h0 : k ≠ n := by omega
           have h1 : ∀ j, k ≠ n + j := fun j => by omega
           simp [Heap.put, h0, h1]
         simp only [List.length_map] at *
         simp only [checkE, badQ, badV, *, ↓reduceIte, Bool.false_eq_true]
        ·skip
         refine awp_skip ?_
         try simp only [go_sem, seval]
         refine hK1 _ _ _ ?_
         first | clear hK1 K1 | skip
         refine awp_rq zs [2] ?_
         refine awp_ret ?_
         try simp only [go_sem, seval]
         refine ⟨_, rfl, ?_, Frz.eq ?_ trivial⟩
         · intro k hk; have h0 : k ≠ n := by omega
           have h1 : ∀ j, k ≠ n + j := fun j => by omega
           simp [Heap.put, h0, h1]
         simp only [List.length_map] at *
         simp only [checkE, badQ, badV, *, ↓reduceIte, Bool.false_eq_true]
theorem c_retain_checked (s : List Fml) (e : Ent) (H : Heap) (n : Nat) : Ret Try.prog 59 [schAV s, entAV e] H n (.int .i64 (checkedE s e)) H n := by
  refine Ret.fin ?_
  refine acalls_of_awp Try.func59 rfl Try.ntmps59 (congrArg Array.toList Try.results59) (by simp) ?_
  simp only [go_sem]
  refine awp_rq zs [2, 3] ?_
  refine awp_seq_k fun K1 hK1 => ?_
  refine awp_reg zs [2, 3, 5] fun K hK => ?_
  try simp only [go_sem, seval]
  repeat refine peel ?_
  refine callK_use Try.func45 rfl rfl rfl ((c_cell_Check e _ _)) ?_
  try simp only [go_sem, seval]
  repeat refine peel ?_
  refine hK _ _ _ ?_; clear hK K
  refine awp_rq zs [2, 3, 5, 9] ?_
  refine awp_cnd (fun hb => ?_) (fun hb => ?_)
  ·skip
   refine awp_rq zs [4] ?_
   refine awp_ret ?_
   try simp only [go_sem, seval]
   refine ⟨_, rfl, ?_, Frz.eq ?_ trivial⟩
   · intro k hk; have h0 : k ≠ n := by omega
     have h1 : ∀ j, k ≠ n + j := fun j => by omega
     simp [Heap.put, h0, h1]
   simp_all [checkedE]
  ·skip
   refine awp_skip ?_
   try simp only [go_sem, seval]
   refine hK1 _ _ _ ?_
   first | clear hK1 K1 | skip
   refine awp_seq_k fun K2 hK2 => ?_
   refine awp_rq zs [16] ?_
   refine awp_cnd (fun hb => ?_) (fun hb => ?_)
   ·skip
    refine awp_rq zs [4] ?_
    refine awp_ret ?_
    try simp only [go_sem, seval]
    refine ⟨_, rfl, ?_, Frz.eq ?_ trivial⟩
    · intro k hk; have h0 : k ≠ n := by omega
      have h1 : ∀ j, k ≠ n + j := fun j => by omega
      simp [Heap.put, h0, h1]
    simp_all [checkedE]
   ·skip
    refine awp_skip ?_
    try simp only [go_sem, seval]
    refine hK2 _ _ _ ?_
    first | clear hK2 K2 | skip
    refine awp_rq zs [4] ?_
    refine awp_ret ?_
    try simp only [go_sem, seval]
    refine ⟨_, rfl, ?_, Frz.eq ?_ trivial⟩
    · intro k hk; have h0 : k ≠ n := by omega
      have h1 : ∀ j, k ≠ n + j := fun j => by omega
      simp [Heap.put, h0, h1]
    simp_all [checkedE]
theorem c_cell_named (s : List UInt8) (H : Heap) (n : Nat) : Ret Try.prog 84 [.str s] H n (.bool (namedB s)) H n := by
  refine acalls_of_awp Try.func84 rfl Try.ntmps84 (congrArg Array.toList Try.results84) (by simp) ?_
  simp only [go_sem]
  refine awp_rq zs [0] ?_
  refine awp_seq_k fun K1 hK1 => ?_
  refine awp_reg zs [0, 13] fun K hK => ?_
  try simp only [go_sem, seval]
  repeat (first | (refine And.intro ?_ ?_; · first | (intro h; simp [bout] at h; omega)) | refine peel ?_)
  refine callK_use Try.func65 rfl rfl rfl ((by apply c_cell_outside <;> first | assumption | omega)) ?_
  try simp only [go_sem, seval]
  repeat (first | (refine And.intro ?_ ?_; · first | (intro h; simp [bout] at h; omega)) | refine peel ?_)
  refine callG_use Try.func99 rfl rfl rfl (fun _ => (by apply c_cell_letter <;> first | assumption | omega)) ?_
  try simp only [go_sem, seval]
  repeat (first | (refine And.intro ?_ ?_; · first | (intro h; simp [bout] at h; omega)) | refine peel ?_)
  refine hK _ _ _ ?_; clear hK K
  refine awp_cnd (fun hb => ?_) (fun hb => ?_)
  ·skip
   refine awp_reg zs [2] fun K hK => ?_
   simp only [go_sem, implies_true, true_and, and_true, List.map_cons, List.map_nil, ↓reduceIte, Nat.reduceLT]
   refine hK _ _ _ (awp_ret ?_)
   simp only [go_sem, ↓reduceIte, implies_true, true_and, and_true]
   cases h1 : bout s.length 1 32 <;> simp_all [namedB]
   --dead
  ·skip
   have h13 : bout s.length 1 32 = false ∧ letterB (s.getD 0 0) = true := by cases h1 : bout s.length 1 32 <;> simp_all
   have hlen := bout_false h13.1
   refine awp_skip ?_
   try simp only [go_sem, seval]
   refine hK1 _ _ _ ?_
   first | clear hK1 K1 | skip
   refine awp_seq_k fun K2 hK2 => ?_
   refine awp_rq zs [0, 15, 16] ?_
   refine awp_block ?_
   refine awp_loop (fun T' H' n' => ∃ i : Nat, i ≤ s.length ∧ T' = tl [(0, .str s), (15, .int .i64 s.length), (16, .int .i64 i)] ∧ H' = H ∧ n' = n ∧ (s.drop i).all nameB = s.all nameB) (fun T' _ _ => s.length - iv (T' 16)) ?_ ?_
   ·skip
    exact ⟨0, Nat.zero_le _, rfl, rfl, rfl, by simp⟩
   intro T1 H1 n1
   rintro ⟨i, hi, rfl, rfl, rfl, hall⟩
   refine awp_rq zs [0, 15, 16, 17] ?_
   refine awp_seq_k fun K3 hK3 => ?_
   refine awp_cnd (fun hb => ?_) (fun hb => ?_)
   ·skip
    have hlt : i < s.length := by simpa using hb
    rw [drop_cons s i hlt, List.all_cons] at hall
    refine awp_skip ?_
    try simp only [go_sem, seval]
    refine hK3 _ _ _ ?_
    first | clear hK3 K3 | skip
    refine awp_seq_k fun K4 hK4 => ?_
    refine awp_block ?_
    refine awp_rq zs [0, 3, 15, 16] ?_
    refine awp_rq zs [0, 4, 15, 16] ?_
    refine awp_reg zs [0, 15, 16, 36] fun K hK => ?_
    try simp only [go_sem, seval]
    repeat refine peel ?_
    refine callK_use Try.func99 rfl rfl rfl ((by apply c_cell_letter <;> first | assumption | omega)) ?_
    try simp only [go_sem, seval]
    repeat refine peel ?_
    refine hK _ _ _ ?_; clear hK K
    refine awp_cnd (fun hb => ?_) (fun hb => ?_)
    ·skip
     have hc : nameB (s.getD i 0) = false := by unfold nameB; exact congrArg (!·) hb
     have hend : namedB s = false := by
       have : s.all nameB = false := by rw [← hall]; show (nameB (s.getD i 0) && _) = false; rw [hc]; rfl
       simp [namedB, this]
     refine awp_rq zs [2] ?_
     refine awp_ret ?_
     try simp only [go_sem, seval]
     rw [hend]
    ·skip
     have hc : nameB (s.getD i 0) = true := by unfold nameB; exact congrArg (!·) hb
     refine awp_skip ?_
     try simp only [go_sem, seval]
     refine hK4 _ _ _ ?_
     first | clear hK4 K4 | skip
     refine awp_reg1 zs [0, 15, 16] fun K hK => ?_
     try simp only [go_sem, seval]
     repeat refine peel ?_
     refine hK _ _ _ ?_; clear hK K
     try simp only [go_sem, seval]
     refine ⟨⟨i + 1, by omega, by rw [w1 (by omega)], ?_⟩, by rw [w1 (by omega)]; simp; omega⟩
     rw [← hall]; show _ = (nameB (s.getD i 0) && _); rw [hc]; rfl
   ·skip
    have hge : i = s.length := by simp at hb; omega
    have hend : namedB s = true := by
      have : s.all nameB = true := by rw [← hall, hge]; simp
      simp only [namedB, this, h13.1, h13.2]; rfl
    refine awp_exit ?_
    try simp only [go_sem, seval]
    refine hK2 _ _ _ ?_
    first | clear hK2 K2 | skip
    refine awp_rq zs [2] ?_
    refine awp_ret ?_
    try simp only [go_sem, seval]
    rw [hend]
theorem c_cell_Family (s : List Fml) (name : List UInt8) (hl : s.length ≤ 1048576) (H : Heap) (n : Nat) : Ret Try.prog 85 [schAV s, .str name] H n (.int .i64 (famIx s name 0)) H n := by
  refine Ret.fin ?_
  refine acalls_of_awp Try.func85 rfl Try.ntmps85 (congrArg Array.toList Try.results85) (by simp) ?_
  simp only [go_sem]
  refine awp_rq zs [1, 2] ?_
  refine awp_seq_k fun K1 hK1 => ?_
  refine awp_rq zs [1, 8, 9, 10] ?_
  refine awp_block ?_
  refine awp_loop (fun T' H' n' => ∃ i : Nat, i ≤ s.length ∧ T' = tl [(1, .str name), (8, .sl 3 (s.map famAV)), (9, .int .i64 s.length), (10, .int .i64 i)] ∧ n ≤ n' ∧ (∀ k, k < n → H' k = H k) ∧ famIx (s.drop i) name i = famIx s name 0) (fun T' _ _ => s.length - iv (T' 10)) ?_ ?_
  ·skip
   refine ⟨0, Nat.zero_le _, by rw [List.length_map]; rfl, by omega, ?_, rfl⟩
   intro k hk; have h0 : k ≠ n := by omega
   simp [Heap.put, h0]
  intro T1 H1 n1
  rintro ⟨i, hi, rfl, hn, hH, hix⟩
  refine awp_rq zs [1, 8, 9, 10, 11] ?_
  refine awp_seq_k fun K2 hK2 => ?_
  refine awp_cnd (fun hb => ?_) (fun hb => ?_)
  ·skip
   have hlt : i < s.length := by simpa using hb
   rw [drop_cons s i hlt, famIx] at hix
   refine awp_skip ?_
   try simp only [go_sem, seval]
   refine hK2 _ _ _ ?_
   first | clear hK2 K2 | skip
   refine awp_seq_k fun K3 hK3 => ?_
   refine awp_block ?_
   have hnth : nth (s.map famAV) i = famAV (s.getD i default) := nth_map famAV s i hlt
   refine awp_reg zs [1, 5, 6, 8, 9, 10] fun K hK => ?_
   try simp only [go_sem, seval, Int.toNat_natCast, hnth]
   repeat refine peel ?_
   refine hK _ _ _ ?_; clear hK K
   refine awp_reg zs [1, 5, 8, 9, 10, 18] fun K hK => ?_
   try simp only [go_sem, seval, Int.toNat_natCast]
   repeat refine peel ?_
   refine hK _ _ _ ?_; clear hK K
   refine awp_cnd (fun hb => ?_) (fun hb => ?_)
   ·skip
    have he : (s.getD i default).name = name := by simpa using hb
    rw [if_pos he] at hix
    refine awp_rq zs [4] ?_
    refine awp_ret ?_
    try simp only [go_sem, seval]
    refine ⟨_, rfl, ?_, Frz.eq ?_ trivial⟩
    · intro k hk; have h0 : k ≠ n1 := by omega
      simp [Heap.put, h0, hH k hk]
    rw [← hix]
   ·skip
    have he : ¬ (s.getD i default).name = name := by simpa using hb
    rw [if_neg he] at hix
    refine awp_skip ?_
    try simp only [go_sem, seval]
    refine hK3 _ _ _ ?_
    first | clear hK3 K3 | skip
    refine awp_reg1 zs [1, 8, 9, 10] fun K hK => ?_
    try simp only [go_sem, seval]
    repeat refine peel ?_
    refine hK _ _ _ ?_; clear hK K
    try simp only [go_sem, seval]
    refine ⟨⟨i + 1, by omega, by rw [w1 (by omega)], by omega, ?_, hix⟩, by rw [w1 (by omega)]; simp; omega⟩
    intro k hk; have h0 : k ≠ n1 := by omega
    simp [h0, hH k hk]
  ·skip
   have hge : i = s.length := by simp at hb; omega
   have hix : (-1 : Int) = famIx s name 0 := by rw [← hix, hge]; simp [famIx]
   refine awp_exit ?_
   try simp only [go_sem, seval]
   refine hK1 _ _ _ ?_
   first | clear hK1 K1 | skip
   refine awp_rq zs [4] ?_
   refine awp_ret ?_
   try simp only [go_sem, seval]
   refine ⟨_, rfl, ?_, Frz.eq ?_ trivial⟩
   · intro k hk; have h0 : k ≠ n1 := by omega
     simp [Heap.put, h0, hH k hk]
   rw [← hix]
end Go.Proofs.Ytijhkfhflpmajaa
namespace Go.Proofs.Ytijhkfhflpmajaa
open Go Go.Sx Go.Rt Go.Proofs
theorem c_retain_copies (b : List UInt8) (hb : b.length ≤ 140737488355328) (H : Heap) (n : Nat) : Ret Try.prog 81 [bys b] H n (bys b) H n := by
  refine acalls_of_awp Try.func81 rfl Try.ntmps81 (congrArg Array.toList Try.results81) (by simp) ?_
  simp only [go_sem]
  refine awp_rq zs [0] ?_
  refine awp_reg zs [2] fun K hK => ?_
  try simp only [go_sem, seval]
  repeat (first | (refine And.intro ?_ ?_; · first | (simp; omega)) | refine peel ?_)
  refine hK _ _ _ ?_; clear hK K
  refine awp_ret ?_
  try simp only [go_sem, seval]
theorem c_retain_same (a b : Ent) (H : Heap) (n : Nat) : Ret Try.prog 66 [entAV a, entAV b] H n (.bool (sameE a b)) H n := by
  refine Ret.fin ?_
  refine acalls_of_awp Try.func66 rfl Try.ntmps66 (congrArg Array.toList Try.results66) (by simp) ?_
  simp only [go_sem]
  refine awp_rq zs [2, 3] ?_
  refine awp_rq zs [2, 3, 5] ?_
  refine awp_reg zs [4] fun K hK => ?_
  try simp only [go_sem, seval]
  repeat refine peel ?_
  refine callG_use Try.func80 rfl rfl rfl (fun _ => (c_bytes_Equal a.row b.row _ _)) ?_
  try simp only [go_sem, seval]
  repeat refine peel ?_
  refine callG_use Try.func80 rfl rfl rfl (fun _ => (c_bytes_Equal a.qual b.qual _ _)) ?_
  try simp only [go_sem, seval]
  repeat refine peel ?_
  refine callG_use Try.func80 rfl rfl rfl (fun _ => (c_bytes_Equal a.value b.value _ _)) ?_
  try simp only [go_sem, seval]
  repeat refine peel ?_
  refine hK _ _ _ ?_; clear hK K
  refine awp_ret ?_
  try simp only [go_sem, seval]
  refine ⟨_, rfl, ?_, Frz.eq ?_ trivial⟩
  · intro k hk; have h0 : k ≠ n := by omega
    have h1 : ∀ j, k ≠ n + j := fun j => by omega
    simp [Heap.put, h0, h1]
  rw [sameE_eq]; simp [Bool.and_assoc]
theorem c_retain_sameFam (a b : Ent) (H : Heap) (n : Nat) : Ret Try.prog 77 [entAV a, entAV b] H n (.bool (sameFamE a b)) H n := by
  refine Ret.fin ?_
  refine acalls_of_awp Try.func77 rfl Try.ntmps77 (congrArg Array.toList Try.results77) (by simp) ?_
  simp only [go_sem]
  refine awp_rq zs [2, 3] ?_
  refine awp_reg zs [4] fun K hK => ?_
  try simp only [go_sem, seval]
  repeat refine peel ?_
  refine callG_use Try.func80 rfl rfl rfl (fun _ => (c_bytes_Equal a.row b.row _ _)) ?_
  try simp only [go_sem, seval]
  repeat refine peel ?_
  refine hK _ _ _ ?_; clear hK K
  refine awp_ret ?_
  try simp only [go_sem, seval]
  refine ⟨_, rfl, ?_, Frz.eq ?_ trivial⟩
  · intro k hk; have h0 : k ≠ n := by omega
    have h1 : ∀ j, k ≠ n + j := fun j => by omega
    simp [Heap.put, h0, h1]
  simp [sameFamE]
theorem c_retain_sameCol (a b : Ent) (H : Heap) (n : Nat) : Ret Try.prog 76 [entAV a, entAV b] H n (.bool (sameColE a b)) H n := by
  refine Ret.fin ?_
  refine acalls_of_awp Try.func76 rfl Try.ntmps76 (congrArg Array.toList Try.results76) (by simp) ?_
  simp only [go_sem]
  refine awp_rq zs [2, 3] ?_
  refine awp_reg zs [4] fun K hK => ?_
  try simp only [go_sem, seval]
  repeat refine peel ?_
  refine callK_use Try.func77 rfl rfl rfl ((c_retain_sameFam a b _ _)) ?_
  try simp only [go_sem, seval]
  repeat refine peel ?_
  refine callG_use Try.func80 rfl rfl rfl (fun _ => (c_bytes_Equal a.qual b.qual _ _)) ?_
  try simp only [go_sem, seval]
  repeat refine peel ?_
  refine hK _ _ _ ?_; clear hK K
  refine awp_ret ?_
  try simp only [go_sem, seval]
  refine ⟨_, rfl, ?_, Frz.eq ?_ trivial⟩
  · intro k hk; have h0 : k ≠ n := by omega
    have h1 : ∀ j, k ≠ n + j := fun j => by omega
    simp [Heap.put, h0, h1]
  simp [sameColE, Bool.and_assoc]
theorem c_retain_copied (e : Ent) (he : e.fits) (H : Heap) (n : Nat) : Ret Try.prog 67 [entAV e] H n (entAV e) H n := by
  obtain ⟨h1, h2, h3⟩ := he
  refine Ret.fin ?_
  refine acalls_of_awp Try.func67 rfl Try.ntmps67 (congrArg Array.toList Try.results67) (by simp) ?_
  simp only [go_sem]
  refine awp_rq zs [1, 2] ?_
  refine awp_drw rfl zs [1, 2] [.q, .q, .c, .q, .q, .c, .q, .q, .c, .q, .w [], .q, .w [], .q, .w []] (by kernel_rfl) (fun _ _ _ _ _ h => h) fun K hK => ?_
  try simp only [go_sem, seval]
  repeat refine peel ?_
  refine callQG_use Try.func81 rfl rfl rfl (fun _ n => (c_retain_copies e.row h1 _ _)) ?_
  try simp only [go_sem, seval]
  repeat refine peel ?_
  refine callQG_use Try.func81 rfl rfl rfl (fun _ n => (c_retain_copies e.qual h2 _ _)) ?_
  try simp only [go_sem, seval]
  repeat refine peel ?_
  refine callQG_use Try.func81 rfl rfl rfl (fun _ n => (c_retain_copies e.value h3 _ _)) ?_
  try simp only [go_sem, seval]
  repeat refine peel ?_
  refine hK _ _ _ ?_; clear hK K
  refine awp_rq zs [2] ?_
  refine awp_ret ?_
  try simp only [go_sem, seval]
  refine ⟨_, rfl, ?_, Frz.eq rfl (kl_ent e n)⟩
  intro k hk; have h0 : k ≠ n := by omega
  have h1 : ∀ j, k ≠ n + j := fun j => by omega
  simp [Heap.put, h0, h1]
theorem c_cmp_Compare (x y : Int) (H : Heap) (n : Nat) : Ret Try.prog 91 [.int .i64 x, .int .i64 y] H n (.int .i64 (cmpI x y)) H n := by
  refine acalls_of_awp Try.func91 rfl Try.ntmps91 (congrArg Array.toList Try.results91) (by simp) ?_
  simp only [go_sem]
  refine awp_rq zs [0, 1] ?_
  refine awp_reg zs [0, 1, 5] fun K hK => ?_
  try simp only [go_sem, seval]
  repeat refine peel ?_
  refine callK_use Try.func102 rfl rfl rfl ((by apply c_cmp_isNaN <;> first | assumption | omega)) ?_
  try simp only [go_sem, seval]
  repeat refine peel ?_
  refine hK _ _ _ ?_; clear hK K
  refine awp_reg zs [0, 1, 5, 6] fun K hK => ?_
  try simp only [go_sem, seval]
  repeat refine peel ?_
  refine callK_use Try.func102 rfl rfl rfl ((by apply c_cmp_isNaN <;> first | assumption | omega)) ?_
  try simp only [go_sem, seval]
  repeat refine peel ?_
  refine hK _ _ _ ?_; clear hK K
  refine awp_seq_k fun K1 hK1 => ?_
  refine awp_rq zs [0, 1, 6, 11] ?_
  refine awp_cnd (fun hb => ?_) (fun hb => ?_)
  ·skip
   refine awp_seq_k fun K2 hK2 => ?_
   refine awp_rq zs [12] ?_
   refine awp_cnd (fun hb => ?_) (fun hb => ?_)
   ·skip
    refine awp_rq zs [4] ?_
    refine awp_ret ?_
    try simp only [go_sem, seval]
    first | (simp_all [cmpI]; done) | (simp_all [cmpI]; rw [if_neg (by omega), if_neg (by omega)])
   ·skip
    refine awp_skip ?_
    try simp only [go_sem, seval]
    refine hK2 _ _ _ ?_
    first | clear hK2 K2 | skip
    refine awp_rq zs [4] ?_
    refine awp_ret ?_
    try simp only [go_sem, seval]
    first | (simp_all [cmpI]; done) | (simp_all [cmpI]; rw [if_neg (by omega), if_neg (by omega)])
  ·skip
   refine awp_skip ?_
   try simp only [go_sem, seval]
   refine hK1 _ _ _ ?_
   first | clear hK1 K1 | skip
   refine awp_seq_k fun K3 hK3 => ?_
   refine awp_rq zs [0, 1, 13] ?_
   refine awp_cnd (fun hb => ?_) (fun hb => ?_)
   ·skip
    refine awp_rq zs [4] ?_
    refine awp_ret ?_
    try simp only [go_sem, seval]
    first | (simp_all [cmpI]; done) | (simp_all [cmpI]; rw [if_neg (by omega), if_neg (by omega)])
   ·skip
    refine awp_skip ?_
    try simp only [go_sem, seval]
    refine hK3 _ _ _ ?_
    first | clear hK3 K3 | skip
    refine awp_seq_k fun K4 hK4 => ?_
    refine awp_rq zs [0, 1, 16] ?_
    refine awp_cnd (fun hb => ?_) (fun hb => ?_)
    ·skip
     refine awp_rq zs [4] ?_
     refine awp_ret ?_
     try simp only [go_sem, seval]
     first | (simp_all [cmpI]; done) | (simp_all [cmpI]; rw [if_neg (by omega), if_neg (by omega)])
    ·skip
     refine awp_skip ?_
     try simp only [go_sem, seval]
     refine hK4 _ _ _ ?_
     first | clear hK4 K4 | skip
     refine awp_seq_k fun K5 hK5 => ?_
     refine awp_rq zs [19] ?_
     refine awp_cnd (fun hb => ?_) (fun hb => ?_)
     ·skip
      refine awp_rq zs [4] ?_
      refine awp_ret ?_
      try simp only [go_sem, seval]
      first | (simp_all [cmpI]; done) | (simp_all [cmpI]; rw [if_neg (by omega), if_neg (by omega)])
     ·skip
      refine awp_skip ?_
      try simp only [go_sem, seval]
      refine hK5 _ _ _ ?_
      first | clear hK5 K5 | skip
      refine awp_rq zs [4] ?_
      refine awp_ret ?_
      try simp only [go_sem, seval]
      first | (simp_all [cmpI]; done) | (simp_all [cmpI]; rw [if_neg (by omega), if_neg (by omega)])
theorem c_bytes_Compare (a b : List UInt8) (H : Heap) (n : Nat) : Ret Try.prog 89 [bys a, bys b] H n (.int .i64 (Lib.compareBytes a b)) H n := by
  refine acalls_of_awp Try.func89 rfl Try.ntmps89 (congrArg Array.toList Try.results89) (by simp) ?_
  simp only [go_sem]
  refine awp_rq zs [0, 1] ?_
  refine awp_reg zs [4] fun K hK => ?_
  try simp only [go_sem, seval]
  repeat refine peel ?_
  refine .inr (ext_bytesCompare Try.func101 rfl rfl (by decide) rfl a b ?_)
  try simp only [go_sem, seval]
  repeat refine peel ?_
  refine hK _ _ _ ?_; clear hK K
  refine awp_ret ?_
  try simp only [go_sem, seval]
theorem c_cell_steps_s1 (a b : Ent) (H : Heap) (n : Nat) : Ret Try.prog 88 [entAV a, entAV b] H n (.int .i64 (stepE 0 a b)) H n := by
  refine Ret.fin ?_
  refine acalls_of_awp Try.func88 rfl Try.ntmps88 (congrArg Array.toList Try.results88) (by simp) ?_
  simp only [go_sem]
  refine awp_rq zs [2, 3] ?_
  refine awp_reg zs [4] fun K hK => ?_
  try simp only [go_sem, seval]
  repeat refine peel ?_
  refine callK_use Try.func89 rfl rfl rfl ((c_bytes_Compare a.row b.row _ _)) ?_
  try simp only [go_sem, seval]
  repeat refine peel ?_
  refine hK _ _ _ ?_; clear hK K
  refine awp_ret ?_
  try simp only [go_sem, seval]
  refine ⟨_, rfl, ?_, Frz.eq rfl trivial⟩
  intro k hk; have h0 : k ≠ n := by omega
  have h1 : ∀ j, k ≠ n + j := fun j => by omega
  simp [Heap.put, h0, h1]
theorem c_cell_steps_s2 (a b : Ent) (H : Heap) (n : Nat) : Ret Try.prog 90 [entAV a, entAV b] H n (.int .i64 (stepE 1 a b)) H n := by
  refine Ret.fin ?_
  refine acalls_of_awp Try.func90 rfl Try.ntmps90 (congrArg Array.toList Try.results90) (by simp) ?_
  simp only [go_sem]
  refine awp_rq zs [2, 3] ?_
  refine awp_reg zs [4] fun K hK => ?_
  try simp only [go_sem, seval]
  repeat refine peel ?_
  refine callK_use Try.func91 rfl rfl rfl ((c_cmp_Compare a.fam b.fam _ _)) ?_
  try simp only [go_sem, seval]
  repeat refine peel ?_
  refine hK _ _ _ ?_; clear hK K
  refine awp_ret ?_
  try simp only [go_sem, seval]
  refine ⟨_, rfl, ?_, Frz.eq rfl trivial⟩
  intro k hk; have h0 : k ≠ n := by omega
  have h1 : ∀ j, k ≠ n + j := fun j => by omega
  simp [Heap.put, h0, h1]
theorem c_cell_steps_s3 (a b : Ent) (H : Heap) (n : Nat) : Ret Try.prog 92 [entAV a, entAV b] H n (.int .i64 (stepE 2 a b)) H n := by
  refine Ret.fin ?_
  refine acalls_of_awp Try.func92 rfl Try.ntmps92 (congrArg Array.toList Try.results92) (by simp) ?_
  simp only [go_sem]
  refine awp_rq zs [2, 3] ?_
  refine awp_reg zs [4] fun K hK => ?_
  try simp only [go_sem, seval]
  repeat refine peel ?_
  refine callK_use Try.func93 rfl rfl rfl ((c_cell_first 5 a b _ _)) ?_
  try simp only [go_sem, seval]
  repeat refine peel ?_
  refine hK _ _ _ ?_; clear hK K
  refine awp_ret ?_
  try simp only [go_sem, seval]
  refine ⟨_, rfl, ?_, Frz.eq rfl trivial⟩
  intro k hk; have h0 : k ≠ n := by omega
  have h1 : ∀ j, k ≠ n + j := fun j => by omega
  simp [Heap.put, h0, h1]
theorem c_cell_steps_s4 (a b : Ent) (H : Heap) (n : Nat) : Ret Try.prog 94 [entAV a, entAV b] H n (.int .i64 (stepE 3 a b)) H n := by
  refine Ret.fin ?_
  refine acalls_of_awp Try.func94 rfl Try.ntmps94 (congrArg Array.toList Try.results94) (by simp) ?_
  simp only [go_sem]
  refine awp_rq zs [2, 3] ?_
  refine awp_reg zs [4] fun K hK => ?_
  try simp only [go_sem, seval]
  repeat refine peel ?_
  refine callK_use Try.func89 rfl rfl rfl ((c_bytes_Compare a.qual b.qual _ _)) ?_
  try simp only [go_sem, seval]
  repeat refine peel ?_
  refine hK _ _ _ ?_; clear hK K
  refine awp_ret ?_
  try simp only [go_sem, seval]
  refine ⟨_, rfl, ?_, Frz.eq rfl trivial⟩
  intro k hk; have h0 : k ≠ n := by omega
  have h1 : ∀ j, k ≠ n + j := fun j => by omega
  simp [Heap.put, h0, h1]
theorem c_cell_steps_s5 (a b : Ent) (H : Heap) (n : Nat) : Ret Try.prog 95 [entAV a, entAV b] H n (.int .i64 (stepE 4 a b)) H n := by
  refine Ret.fin ?_
  refine acalls_of_awp Try.func95 rfl Try.ntmps95 (congrArg Array.toList Try.results95) (by simp) ?_
  simp only [go_sem]
  refine awp_rq zs [2, 3] ?_
  refine awp_reg zs [4] fun K hK => ?_
  try simp only [go_sem, seval]
  repeat refine peel ?_
  refine callK_use Try.func93 rfl rfl rfl ((c_cell_first 4 a b _ _)) ?_
  try simp only [go_sem, seval]
  repeat refine peel ?_
  refine hK _ _ _ ?_; clear hK K
  refine awp_ret ?_
  try simp only [go_sem, seval]
  refine ⟨_, rfl, ?_, Frz.eq rfl trivial⟩
  intro k hk; have h0 : k ≠ n := by omega
  have h1 : ∀ j, k ≠ n + j := fun j => by omega
  simp [Heap.put, h0, h1]
theorem c_cell_steps_s6 (a b : Ent) (H : Heap) (n : Nat) : Ret Try.prog 96 [entAV a, entAV b] H n (.int .i64 (stepE 5 a b)) H n := by
  refine Ret.fin ?_
  refine acalls_of_awp Try.func96 rfl Try.ntmps96 (congrArg Array.toList Try.results96) (by simp) ?_
  simp only [go_sem]
  refine awp_rq zs [2, 3] ?_
  refine awp_reg zs [4] fun K hK => ?_
  try simp only [go_sem, seval]
  repeat refine peel ?_
  refine callK_use Try.func91 rfl rfl rfl ((c_cmp_Compare b.ts a.ts _ _)) ?_
  try simp only [go_sem, seval]
  repeat refine peel ?_
  refine hK _ _ _ ?_; clear hK K
  refine awp_ret ?_
  try simp only [go_sem, seval]
  refine ⟨_, rfl, ?_, Frz.eq rfl trivial⟩
  intro k hk; have h0 : k ≠ n := by omega
  have h1 : ∀ j, k ≠ n + j := fun j => by omega
  simp [Heap.put, h0, h1]
theorem c_cell_steps_s7 (a b : Ent) (H : Heap) (n : Nat) : Ret Try.prog 97 [entAV a, entAV b] H n (.int .i64 (stepE 6 a b)) H n := by
  refine Ret.fin ?_
  refine acalls_of_awp Try.func97 rfl Try.ntmps97 (congrArg Array.toList Try.results97) (by simp) ?_
  simp only [go_sem]
  refine awp_rq zs [2, 3] ?_
  refine awp_reg zs [4] fun K hK => ?_
  try simp only [go_sem, seval]
  repeat refine peel ?_
  refine callK_use Try.func91 rfl rfl rfl ((c_cmp_Compare b.seq a.seq _ _)) ?_
  try simp only [go_sem, seval]
  repeat refine peel ?_
  refine hK _ _ _ ?_; clear hK K
  refine awp_ret ?_
  try simp only [go_sem, seval]
  refine ⟨_, rfl, ?_, Frz.eq rfl trivial⟩
  intro k hk; have h0 : k ≠ n := by omega
  have h1 : ∀ j, k ≠ n + j := fun j => by omega
  simp [Heap.put, h0, h1]
theorem c_cell_steps_s8 (a b : Ent) (H : Heap) (n : Nat) : Ret Try.prog 98 [entAV a, entAV b] H n (.int .i64 (stepE 7 a b)) H n := by
  refine Ret.fin ?_
  refine acalls_of_awp Try.func98 rfl Try.ntmps98 (congrArg Array.toList Try.results98) (by simp) ?_
  simp only [go_sem]
  refine awp_rq zs [2, 3] ?_
  refine awp_reg zs [4] fun K hK => ?_
  try simp only [go_sem, seval]
  repeat refine peel ?_
  refine callK_use Try.func91 rfl rfl rfl ((c_cmp_Compare a.kind b.kind _ _)) ?_
  try simp only [go_sem, seval]
  repeat refine peel ?_
  refine hK _ _ _ ?_; clear hK K
  refine awp_ret ?_
  try simp only [go_sem, seval]
  refine ⟨_, rfl, ?_, Frz.eq rfl trivial⟩
  intro k hk; have h0 : k ≠ n := by omega
  have h1 : ∀ j, k ≠ n + j := fun j => by omega
  simp [Heap.put, h0, h1]
end Go.Proofs.Ytijhkfhflpmajaa
namespace Go.Proofs.Ytijhkfhflpmajaa
open Go Go.Sx Go.Rt Go.Proofs
def stepsL : List AV := [.fn (.func 88) [] [], .fn (.func 90) [] [], .fn (.func 92) [] [], .fn (.func 94) [] [], .fn (.func 95) [] [], .fn (.func 96) [] [], .fn (.func 97) [] [], .fn (.func 98) [] []]
theorem c_cell_steps (H : Heap) (n : Nat) : Ret Try.prog 83 [] H n (.agg stepsL) H n := by
  refine Ret.fin ?_
  refine acalls_of_awp Try.func83 rfl Try.ntmps83 (congrArg Array.toList Try.results83) (by simp) ?_
  simp only [go_sem]
  refine awp_rq zs [0] ?_
  refine awp_rq zs [0] ?_
  refine awp_ret ?_
  try simp only [go_sem, seval]
  refine ⟨_, rfl, ?_, Frz.eq rfl ?_⟩
  · intro k hk; have h0 : k ≠ n := by omega
    simp [Heap.put, h0]
  simp [AV.kl, AV.kls]
theorem stepAt (i : Nat) (hi : i < 8) : ∃ g fn, nth stepsL i = .fn (.func g) [] [] ∧ Try.prog.funcs[g]? = some fn ∧ fn.body.isSome = true ∧ (fn.name == "runtime.NumGoroutine") = false ∧ ∀ a b H n, Ret Try.prog g [entAV a, entAV b] H n (.int .i64 (stepE i a b)) H n := by
  match i, hi with
  | 0, _ => exact ⟨_, _, rfl, Try.func88, rfl, rfl, c_cell_steps_s1⟩
  | 1, _ => exact ⟨_, _, rfl, Try.func90, rfl, rfl, c_cell_steps_s2⟩
  | 2, _ => exact ⟨_, _, rfl, Try.func92, rfl, rfl, c_cell_steps_s3⟩
  | 3, _ => exact ⟨_, _, rfl, Try.func94, rfl, rfl, c_cell_steps_s4⟩
  | 4, _ => exact ⟨_, _, rfl, Try.func95, rfl, rfl, c_cell_steps_s5⟩
  | 5, _ => exact ⟨_, _, rfl, Try.func96, rfl, rfl, c_cell_steps_s6⟩
  | 6, _ => exact ⟨_, _, rfl, Try.func97, rfl, rfl, c_cell_steps_s7⟩
  | 7, _ => exact ⟨_, _, rfl, Try.func98, rfl, rfl, c_cell_steps_s8⟩
theorem c_cell_Compare (a b : Ent) (H : Heap) (n : Nat) : Ret Try.prog 69 [entAV a, entAV b] H n (.int .i64 (compE a b)) H n := by
  refine Ret.fin ?_
  refine acalls_of_awp Try.func69 rfl Try.ntmps69 (congrArg Array.toList Try.results69) (by simp) ?_
  simp only [go_sem]
  refine awp_rq zs [2, 3] ?_
  refine awp_seq_k fun K1 hK1 => ?_
  refine awp_reg zs [2, 3, 8, 9] fun K hK => ?_
  try simp only [go_sem, seval]
  repeat refine peel ?_
  refine callK_use Try.func83 rfl rfl rfl ((c_cell_steps _ _)) ?_
  try simp only [go_sem, seval]
  repeat refine peel ?_
  refine hK _ _ _ ?_; clear hK K
  refine awp_block ?_
  refine awp_loop (fun T' H' n' => ∃ i : Nat, i ≤ 8 ∧ T' = tl [(2, .loc n 0 0 0 []), (3, .loc (n + 1) 0 0 0 []), (8, .agg stepsL), (9, .int .i64 i)] ∧ H' = (H.put n (some (.arr 0 7 [entAV a]))).put (n + 1) (some (.arr 0 7 [entAV b])) ∧ n' = n + 2 ∧ compFrom a b (8 - i) = compE a b) (fun T' _ _ => 8 - iv (T' 9)) ?_ ?_
  ·skip
   exact ⟨0, by omega, rfl, rfl, rfl, rfl⟩
  intro T1 H1 n1
  rintro ⟨i, hi, rfl, rfl, rfl, hc⟩
  refine awp_rq zs [2, 3, 8, 9, 10] ?_
  refine awp_seq_k fun K2 hK2 => ?_
  refine awp_cnd (fun hb => ?_) (fun hb => ?_)
  ·skip
   have hlt : i < 8 := by simp at hb; omega
   obtain ⟨g, gfn, hg, hgf, hgb, hgn, hgc⟩ := stepAt i hlt
   rw [show 8 - i = (7 - i) + 1 by omega, compFrom, show 7 - (7 - i) = i by omega] at hc
   refine awp_skip ?_
   try simp only [go_sem, seval]
   refine hK2 _ _ _ ?_
   first | clear hK2 K2 | skip
   refine awp_seq_k fun K3 hK3 => ?_
   refine awp_block ?_
   refine awp_reg zs [2, 3, 6, 8, 9] fun K hK => ?_
   try simp only [go_sem, seval, Int.toNat_natCast, hg]
   repeat (first | (refine And.intro ?_ ?_; · first | exact ⟨by omega, by omega, rfl, by simp [stepsL, AV.sz], by simp [stepsL, AV.isAgg]⟩) | refine peel ?_)
   refine hK _ _ _ ?_; clear hK K
   refine awp_reg zs [2, 3, 7, 8, 9] fun K hK => ?_
   try simp only [go_sem, seval]
   repeat refine peel ?_
   refine callK_use hgf hgb hgn rfl (hgc a b _ _) ?_
   try simp only [go_sem, seval]
   repeat refine peel ?_
   refine hK _ _ _ ?_; clear hK K
   refine awp_rq zs [2, 3, 7, 8, 9, 17] ?_
   refine awp_cnd (fun hb => ?_) (fun hb => ?_)
   ·skip
    have h0 : stepE i a b ≠ 0 := by simpa using hb
    rw [if_pos h0] at hc
    refine awp_rq zs [4] ?_
    refine awp_ret ?_
    try simp only [go_sem, seval]
    refine ⟨_, rfl, ?_, Frz.eq (by rw [hc]) trivial⟩
    intro k hk; have h0 : k ≠ n := by omega
    have h1 : ∀ j, k ≠ n + j := fun j => by omega
    simp [Heap.put, h0, h1]
   ·skip
    have h0 : ¬ stepE i a b ≠ 0 := by simpa using hb
    rw [if_neg h0] at hc
    refine awp_skip ?_
    try simp only [go_sem, seval]
    refine hK3 _ _ _ ?_
    first | clear hK3 K3 | skip
    refine awp_reg1 zs [2, 3, 8, 9] fun K hK => ?_
    try simp only [go_sem, seval]
    repeat refine peel ?_
    refine hK _ _ _ ?_; clear hK K
    try simp only [go_sem, seval]
    refine ⟨⟨i + 1, by omega, by rw [w1 (by omega)], by rw [show 8 - (i + 1) = 7 - i by omega]; exact hc⟩, by rw [w1 (by omega)]; simp; omega⟩
  ·skip
   have hge : i = 8 := by simp at hb; omega
   have hc : (0 : Int) = compE a b := by rw [← hc, hge]; rfl
   refine awp_exit ?_
   try simp only [go_sem, seval]
   refine hK1 _ _ _ ?_
   first | clear hK1 K1 | skip
   refine awp_rq zs [4] ?_
   refine awp_ret ?_
   try simp only [go_sem, seval]
   refine ⟨_, rfl, ?_, Frz.eq (by rw [hc]) trivial⟩
   intro k hk; have h0 : k ≠ n := by omega
   have h1 : ∀ j, k ≠ n + j := fun j => by omega
   simp [Heap.put, h0, h1]
end Go.Proofs.Ytijhkfhflpmajaa