/- Own layer: what came in, read as the statements read it, is what abstract values say of it. Of every program; no condition. -/
import Derived.Test.YtijhkfhflpmajaaGreatFB
import Derived.ChangeArms
import Derived.OpenShut
import Derived.ChangeOld
import Derived.JoinedCond
import Derived.WalkKit
import Derived.ProofKit
import Derived.Test.YtijhkfhflpmajaaGreatFG
import Derived.Test.YtijhkfhflpmajaaGreatRows
import Derived.Test.YtijhkfhflpmajaaGreatFL
set_option linter.unusedSimpArgs false
set_option linter.unusedVariables false
namespace Go.Sx
open Go Go.ChangeShapes
def c0 (W : World) : Ctx := ⟨fun _ _ => none, fun b => match W.heap[b]? with | some (.cells a _ _) => some a | _ => none⟩
theorem sim0 (W : World) : Sim (c0 W) (fun _ => none) 0 W where
  ro := fun b a h => by
    simp only [c0] at h
    split at h
    · rename_i a' ty fr hb; simp only [Option.some.injEq] at h; subst h; exact ⟨ty, fr, hb⟩
    · simp at h
  own := fun k o h => by simp at h
  sep := fun k o b h => by simp at h
  inj := fun k k' o o' b h => by simp at h
  fresh := fun k _ => ⟨rfl, fun v => rfl⟩
  vers := fun k o v h => by simp at h
structure BulkOK {H : Type} (B : DataW H → Nat) : Prop where
  lit : ∀ l, 1 ≤ B (.lit l)
  str : ∀ s : List UInt8, s.length ≤ B (.lit (.string s))
  nil : 1 ≤ B .nil
  slice : ∀ es sp, (es.map B).sum + 1 ≤ B (.slice es sp)
  agg : ∀ ps, (ps.map B).sum + 1 ≤ B (.agg ps)
section
variable {H : Type} (enc : TypeId × Value → H) (P : Program) (W : World) (B : DataW H → Nat)
def Reads (t : TypeId) (S : AV → Nat → Prop) : Prop :=
  ∀ fuel cs x, DataW.trod enc P W 0 (fun _ => true) true fuel t cs = some x → ∃ a m, S a m ∧ Rel (c0 W) a true cs ∧ m ≤ B x.1
variable {enc P W B}
theorem reads_int (hB : BulkOK B) {t : TypeId} {k : IntKind} (hu : P.underlying t = some (.int k)) : Reads enc P W B t fun a m => ∃ n, a = .int k n ∧ (Lit.int k n).wf = true ∧ m = 1 := fun fuel cs x h => by
  obtain ⟨n, rfl, rfl, hw⟩ := DataW.trod_int hu h
  exact ⟨_, 1, ⟨n, rfl, hw, rfl⟩, by simp [Rel], hB.lit _⟩
theorem reads_bool (hB : BulkOK B) {t : TypeId} (hu : P.underlying t = some .bool) : Reads enc P W B t fun a m => ∃ b, a = .bool b ∧ m = 1 := fun fuel cs x h => by
  obtain ⟨b, rfl, rfl⟩ := DataW.trod_bool hu h
  exact ⟨_, 1, ⟨b, rfl, rfl⟩, by simp [Rel], hB.lit _⟩
theorem reads_str (hB : BulkOK B) {t : TypeId} (hu : P.underlying t = some .string) : Reads enc P W B t fun a m => ∃ s, a = .str s ∧ m = s.length := fun fuel cs x h => by
  obtain ⟨s, rfl, rfl, _⟩ := DataW.trod_string hu h
  exact ⟨_, _, ⟨s.data.toList, rfl, rfl⟩, by simp [Rel], hB.str _⟩
def sSl (esz : Nat) (S : AV → Nat → Prop) (a : AV) (m : Nat) : Prop := ∃ xs : List (AV × Nat), a = .sl esz (xs.map (·.1)) ∧ (∀ y ∈ xs, S y.1 y.2) ∧ m = (xs.map (·.2)).sum + 1
theorem relF_flat {c : Ctx} (f : Nat → AV) (g : Nat → List Value) : ∀ (l : List Nat), (∀ i ∈ l, Rel c (f i) true (g i)) → RelF c (l.map f) (l.flatMap g)
  | [], _ => by simp [RelF]
  | i :: l, h => by
    simp only [List.map_cons, List.flatMap_cons, RelF]
    exact ⟨_, _, rfl, h i (by simp), relF_flat f g l fun j hj => h j (by simp [hj])⟩
theorem at_flat {arr : Array Value} {off esz : Nat} (g : Nat → List Value) : ∀ (n s : Nat), (∀ i, s ≤ i → i < s + n → (g i).length = esz ∧ At arr (off + i * esz) (g i)) → At arr (off + s * esz) ((List.range' s n).flatMap g)
  | 0, s, _ => by simp; exact At.nil
  | n + 1, s, h => by
    rw [List.range'_succ, List.flatMap_cons]
    obtain ⟨h1, h2⟩ := h s (Nat.le_refl _) (by omega)
    refine At.append.2 ⟨h2, ?_⟩
    rw [h1]
    have := at_flat g n (s + 1) fun i hi hi' => h i (by omega) (by omega)
    rw [Nat.add_mul, Nat.one_mul, ← Nat.add_assoc] at this
    exact this
theorem sum_le {α : Type} (f g : α → Nat) : ∀ (l : List α), (∀ x ∈ l, f x ≤ g x) → (l.map f).sum ≤ (l.map g).sum
  | [], _ => by simp
  | x :: l, h => by
    simp only [List.map_cons, List.sum_cons]
    have := sum_le f g l fun y hy => h y (by simp [hy])
    have := h x (by simp)
    omega
theorem reads_slice (hB : BulkOK B) {t e : TypeId} {esz : Nat} {S : AV → Nat → Prop} (hu : P.underlying t = some (.slice e)) (hsz : P.cellsOf e = esz) (hpos : 0 < esz) (hS : Reads enc P W B e S) (hSz : ∀ a m, S a m → a.sz = esz) :
    Reads enc P W B t (sSl esz S) := fun fuel cs x h => by
  subst hsz
  rcases DataW.trod_slice hu h with ⟨rfl, rfl⟩ | ⟨a, len, cap, elems, rest, n, rfl, rfl, rfl, _, hl, hm, hlen, hel, _, _⟩
  · refine ⟨.sl (P.cellsOf e) [], 1, ⟨[], rfl, by simp, rfl⟩, ?_, hB.nil⟩
    simp only [Rel]
    exact ⟨none, 0, rfl, Nat.le_refl _, by simp, .inl trivial⟩
  · have each : ∀ i, i < len → ∃ (y : AV × Nat) (ci : List Value), W.cells? 0 (a.add (i * P.cellsOf e)) (P.cellsOf e) = some ci ∧ S y.1 y.2 ∧ Rel (c0 W) y.1 true ci ∧ ∀ z, elems[i]? = some z → y.2 ≤ B z.1 := fun i hi => by
      have hz : elems[i]? = some elems[i] := List.getElem?_eq_getElem (by omega)
      have h1 := hel i hi
      rw [hz] at h1
      simp only [Option.bind_eq_some_iff] at h1
      obtain ⟨ci, h1, h2⟩ := h1
      obtain ⟨aa, m, h3, h4, h5⟩ := hS _ _ _ h2
      exact ⟨(aa, m), ci, h1, h3, h4, fun z hz' => by rw [hz] at hz'; cases hz'; exact h5⟩
    have each' : ∀ i, ∃ (y : AV × Nat) (ci : List Value), i < len → W.cells? 0 (a.add (i * P.cellsOf e)) (P.cellsOf e) = some ci ∧ S y.1 y.2 ∧ Rel (c0 W) y.1 true ci ∧ ∀ z, elems[i]? = some z → y.2 ≤ B z.1 := fun i => by
      by_cases hi : i < len
      · obtain ⟨y, ci, h⟩ := each i hi; exact ⟨y, ci, fun _ => h⟩
      · exact ⟨(.junk, 0), [], fun h => absurd h hi⟩
    let f : Nat → AV × Nat := fun i => Classical.choose (each' i)
    let g : Nat → List Value := fun i => Classical.choose (Classical.choose_spec (each' i))
    have hfg : ∀ i, i < len → W.cells? 0 (a.add (i * P.cellsOf e)) (P.cellsOf e) = some (g i) ∧ S (f i).1 (f i).2 ∧ Rel (c0 W) (f i).1 true (g i) ∧ ∀ z, elems[i]? = some z → (f i).2 ≤ B z.1 := fun i => Classical.choose_spec (Classical.choose_spec (each' i))
    clear_value f g
    refine ⟨.sl (P.cellsOf e) (((List.range' 0 len).map f).map (·.1)), _, ⟨(List.range' 0 len).map f, rfl, ?_, rfl⟩, ?_, ?_⟩
    · intro y hy
      obtain ⟨i, hi, rfl⟩ := List.mem_map.1 hy
      exact (hfg i (by simpa using hi)).2.1
    · simp only [Rel]
      refine ⟨some a, cap, by simp, by simpa using hl, ?_, ?_⟩
      · intro x hx
        simp only [List.map_map, List.mem_map, List.mem_range'_1] at hx
        obtain ⟨i, hi, rfl⟩ := hx
        exact hSz _ _ (hfg i (by omega)).2.1
      · by_cases h0 : len = 0
        · left; subst h0; rfl
        · right
          obtain ⟨b, off, spot⟩ := a
          have hc0 := (World.cells?_some (hfg 0 (by omega)).1).2.2 0 hpos
          have hl0 := (World.cells?_some (hfg 0 (by omega)).1).2.1
          have hv : ∃ v, (g 0)[0]? = some v := ⟨(g 0)[0], List.getElem?_eq_getElem (by omega)⟩
          obtain ⟨v, hv⟩ := hv
          rw [hv] at hc0
          have hspot : spot = none := by simpa [Addr.add] using World.cell?_spot hc0
          subst hspot
          have harr : ∃ arr ty fr, W.heap[b]? = some (.cells arr ty fr) := by
            simp only [Nat.zero_mul, Addr.add, if_true] at hc0
            unfold World.cell? at hc0
            cases hb : W.heap[b]? with
            | none => simp [hb] at hc0
            | some o => cases o <;> simp [hb] at hc0 ⊢
          obtain ⟨arr, ty, fr, hb⟩ := harr
          refine ⟨b, off, arr, (List.range' 0 len).flatMap g, rfl, by simp [c0, hb], ?_, ?_⟩
          · rw [List.map_map]
            exact relF_flat _ g _ fun i hi => (hfg i (by simpa using hi)).2.2.1
          · have := at_flat (arr := arr) (off := off) (esz := P.cellsOf e) g len 0 fun i _ hi => by
              obtain ⟨_, h2, h3⟩ := World.cells?_some (hfg i (by omega)).1
              refine ⟨h2, fun j v hj => ?_⟩
              have hjl : j < P.cellsOf e := by
                rcases Nat.lt_or_ge j (g i).length with h | h
                · omega
                · rw [List.getElem?_eq_none h] at hj; simp at hj
              have h4 := h3 j hjl
              rw [hj, Addr.add_plain, Addr.add_plain] at h4
              simp only [World.cell?, hb] at h4
              simpa using h4
            simpa using this
    · have h1 : (((List.range' 0 len).map f).map (·.2)).sum ≤ ((elems.map (·.1)).map B).sum := by
        have e1 : elems = (List.range' 0 len).map fun i => (elems[i]?).getD (.nil, []) := by
          apply List.ext_getElem?
          intro i
          by_cases hi : i < len
          · simp [List.getElem?_map, List.getElem?_range' hi, List.getElem?_eq_getElem (show i < elems.length by omega)]
          · rw [List.getElem?_eq_none (by omega), List.getElem?_eq_none (by simp; omega)]
        have e2 : ((elems.map (·.1)).map B) = (List.range' 0 len).map fun i => B ((elems[i]?).getD (.nil, [])).1 := by
          conv => lhs; rw [e1]
          simp [List.map_map, Function.comp_def]
        rw [e2, List.map_map]
        refine sum_le _ _ _ fun i hi => ?_
        have hi' : i < len := by simpa using hi
        exact (hfg i hi').2.2.2 _ (by rw [List.getElem?_eq_getElem (show i < elems.length by omega)]; rfl)
      have h2 := hB.slice (elems.map (·.1)) (rest.map (·.1))
      show _ ≤ B (.slice _ _)
      omega
def SAll : List (AV → Nat → Prop) → List (AV × Nat) → Prop
  | [], [] => True
  | S :: Ss, x :: xs => S x.1 x.2 ∧ SAll Ss xs
  | _, _ => False
def sAgg (Ss : List (AV → Nat → Prop)) (a : AV) (m : Nat) : Prop := ∃ xs : List (AV × Nat), a = .agg (xs.map (·.1)) ∧ SAll Ss xs ∧ m = (xs.map (·.2)).sum + 1
variable (enc P W B) in
def FldOK : List Field → List (AV → Nat → Prop) → Nat → Nat → Prop
  | [], [], off, total => off = total
  | f :: fs, S :: Ss, off, total => f.offset = off ∧ Reads enc P W B f.type S ∧ FldOK fs Ss (off + P.cellsOf f.type) total
  | _, _, _, _ => False
theorem fields_rel {n : Nat} {cs : List Value} : ∀ (fs : List Field) (Ss : List (AV → Nat → Prop)) (off : Nat) (ys : List (DataW H × List MemPlace)), FldOK enc P W B fs Ss off cs.length → ys.length = fs.length →
    (∀ (i : Nat) (f : Field), fs[i]? = some f → DataW.trod enc P W 0 (fun _ => true) true n f.type ((cs.drop f.offset).take (P.cellsOf f.type)) = ys[i]?) →
    ∃ xs, SAll Ss xs ∧ RelF (c0 W) (xs.map (·.1)) (cs.drop off) ∧ (xs.map (·.2)).sum ≤ ((ys.map (·.1)).map B).sum
  | [], [], off, ys, hf, hl, _ => by
    simp only [FldOK] at hf
    refine ⟨[], trivial, ?_, by simp⟩
    simp only [List.map_nil, RelF]
    exact List.drop_eq_nil_of_le (by omega)
  | f :: fs, S :: Ss, off, ys, hf, hl, hy => by
    simp only [FldOK] at hf
    obtain ⟨ho, hr, hf⟩ := hf
    cases ys with
    | nil => simp at hl
    | cons y ys =>
      have h0 := hy 0 f rfl
      simp only [List.getElem?_cons_zero] at h0
      obtain ⟨a, m, h1, h2, h3⟩ := hr _ _ _ h0
      obtain ⟨xs, h4, h5, h6⟩ := fields_rel fs Ss (off + P.cellsOf f.type) ys hf (by simpa using hl) fun i f' hi => by
        have := hy (i + 1) f' (by simpa using hi)
        simpa using this
      refine ⟨(a, m) :: xs, ⟨h1, h4⟩, ?_, by simp only [List.map_cons, List.sum_cons]; omega⟩
      simp only [List.map_cons, RelF]
      refine ⟨(cs.drop off).take (P.cellsOf f.type), cs.drop (off + P.cellsOf f.type), ?_, by rw [← ho]; exact h2, h5⟩
      rw [← List.drop_drop, List.take_append_drop]
  | [], _ :: _, _, _, hf, _, _ => by simp [FldOK] at hf
  | _ :: _, [], _, _, hf, _, _ => by simp [FldOK] at hf
theorem reads_struct (hB : BulkOK B) {t : TypeId} {fs : Array Field} {Ss : List (AV → Nat → Prop)} (hu : P.underlying t = some (.struct fs)) (hf : FldOK enc P W B fs.toList Ss 0 (P.cellsOf t)) : Reads enc P W B t (sAgg Ss) := fun fuel cs x h => by
  obtain ⟨ys, n, rfl, rfl, hl, hyl, hy⟩ := DataW.trod_struct hu h
  rw [← hl] at hf
  obtain ⟨xs, h1, h2, h3⟩ := fields_rel fs.toList Ss 0 ys hf (by simpa using hyl) fun i f hi => hy i f (by simpa using hi)
  refine ⟨.agg (xs.map (·.1)), _, ⟨xs, rfl, h1, rfl⟩, by simp only [Rel]; simpa using h2, ?_⟩
  have := hB.agg (ys.map (·.1))
  show _ ≤ B (.agg _)
  omega
theorem reads_arg {t : TypeId} {S : AV → Nat → Prop} (hr : Reads enc P W B t S) {v : Value} {d : DataW H} {ps : List MemPlace} (h : DataW.Trod enc P W 0 (fun _ => true) true t v d ps) :
    ∃ a m, S a m ∧ Rel (c0 W) a true v.cells.toList ∧ m ≤ B d := by
  obtain ⟨fuel, h⟩ := h
  exact hr _ _ _ h
end
theorem rel_flat {c : Ctx} {a : AV} {v : Value} (h : Rel c a true v.cells.toList) (ha : a.isAgg = true → ∃ cs, v = .agg cs) (hn : a.isAgg = false → v.cells = #[v]) : Rel c a false [v] := by
  cases hag : a.isAgg with
  | true =>
    obtain ⟨cs, rfl⟩ := ha hag
    cases a <;> simp [AV.isAgg] at hag
    simp only [Rel] at h ⊢
    exact ⟨cs, rfl, h⟩
  | false =>
    rw [hn hag] at h
    cases a <;> simp only [Rel] at h ⊢ <;> first | exact h | (simp [AV.isAgg] at hag; done) | skip
    · exact ⟨h.1, fun h => by simp at h⟩
    · obtain ⟨x, h1, _⟩ := h; exact ⟨x, h1, fun h => by simp at h⟩
end Go.Sx
namespace Go.Sx
open Go
theorem sSl_map {α : Type} {esz : Nat} {S : AV → Nat → Prop} {f : α → AV} {q : α → Nat} (h : ∀ a m, S a m → ∃ x, a = f x ∧ q x ≤ m ∧ 1 ≤ m) {a : AV} {m : Nat} (hs : sSl esz S a m) :
    ∃ l : List α, a = .sl esz (l.map f) ∧ l.length + 1 ≤ m ∧ ∀ x ∈ l, q x ≤ m := by
  obtain ⟨xs, rfl, hx, rfl⟩ := hs
  suffices hh : ∃ l : List α, xs.map (·.1) = l.map f ∧ l.length ≤ (xs.map (·.2)).sum ∧ ∀ x ∈ l, q x ≤ (xs.map (·.2)).sum by
    obtain ⟨l, h1, h2, h3⟩ := hh
    exact ⟨l, by rw [h1], by omega, fun x hx => by have := h3 x hx; omega⟩
  induction xs with
  | nil => exact ⟨[], rfl, by simp, by simp⟩
  | cons y ys ih =>
    obtain ⟨l, h1, h2, h3⟩ := ih fun z hz => hx z (by simp [hz])
    obtain ⟨x, h4, h5, h6⟩ := h y.1 y.2 (hx y (by simp))
    refine ⟨x :: l, by simp [h1, h4], by simp; omega, fun z hz => ?_⟩
    simp only [List.map_cons, List.sum_cons]
    rcases List.mem_cons.1 hz with rfl | hz
    · omega
    · have := h3 z hz; omega
theorem Ret.below {P : Program} {f : FuncId} {args : List AV} {W : World} {vs : List Value} {b : Bool} (h : Ret P f args (fun _ => none) 0 (.bool b) (fun _ => none) 0) (hr : RelT (c0 W) args vs) :
    Calls P f vs.toArray W fun e w' => e = .returned (.bool b) ∧ RowKit.Below W.heap.size W w' :=
  (h (c0 W) W vs (sim0 W) hr).mono fun e w' ⟨res, c', H', n', ⟨hres, _, _⟩, hst, hm⟩ => by
    subst hres
    refine ⟨?_, ?_⟩
    · cases e with
      | returned v => simp only [Rel, List.cons.injEq, and_true] at hm; rw [hm]
      | panicked _ => exact hm.elim
      | outgrown => exact hm.elim
    · have hf := hst.fr
      exact ⟨hf.os, hf.tape, hf.output, hf.size, fun k hk => hf.keep k hk fun ⟨_, _, h, _⟩ => by simp at h⟩
theorem SAll_cons {S : AV → Nat → Prop} {Ss : List (AV → Nat → Prop)} {xs : List (AV × Nat)} (h : SAll (S :: Ss) xs) : ∃ x ys, xs = x :: ys ∧ S x.1 x.2 ∧ SAll Ss ys := by
  cases xs with
  | nil => exact h.elim
  | cons x ys => exact ⟨x, ys, rfl, h.1, h.2⟩
theorem SAll_nil {xs : List (AV × Nat)} (h : SAll [] xs) : xs = [] := by
  cases xs with
  | nil => rfl
  | cons x ys => exact h.elim
theorem fld_cons {H : Type} {enc : TypeId × Value → H} {P : Program} {W : World} {B : DataW H → Nat} {f : Field} {fs : List Field} {S : AV → Nat → Prop} {Ss : List (AV → Nat → Prop)} {off off' total : Nat}
    (h1 : f.offset = off) (h2 : Reads enc P W B f.type S) (h3 : off + P.cellsOf f.type = off') (h4 : FldOK enc P W B fs Ss off' total) : FldOK enc P W B (f :: fs) (S :: Ss) off total := ⟨h1, h2, h3 ▸ h4⟩
theorem fld_nil {H : Type} {enc : TypeId × Value → H} {P : Program} {W : World} {B : DataW H → Nat} {off total : Nat} (h : off = total) : FldOK enc P W B [] [] off total := h
end Go.Sx
namespace Go.Proofs.YtijhkfhflpmajaaGreat
open Go Go.Sx Go.Rt Go.Proofs Go.ChangeShapes Go.WideShapes Go.ChangeAt Go.RowKit
theorem own9 : ownKnob Tryz.prog.godebug = none := by kernel_rfl
theorem laid9 : laidOutB Tryz.prog = true := by kernel_rfl
theorem bulkAll_sum {H : Type} : ∀ (l : List (DataW H)), Rows.uptoBulkAll l = (l.map Rows.uptoBulk).sum
  | [] => by simp [Rows.uptoBulkAll]
  | d :: l => by simp only [Rows.uptoBulkAll, List.map_cons, List.sum_cons]; rw [bulkAll_sum l]
theorem bulkOK {H : Type} : BulkOK (Rows.uptoBulk (H := H)) where
  lit := fun l => by cases l <;> simp [Rows.uptoBulk]
  str := fun s => by simp [Rows.uptoBulk]
  nil := by simp [Rows.uptoBulk]
  slice := fun es sp => by simp only [Rows.uptoBulk]; rw [bulkAll_sum es]; omega
  agg := fun ps => by simp only [Rows.uptoBulk]; rw [bulkAll_sum ps]; omega
section
variable {H : Type} {enc : TypeId × Value → H} {W : World}
def S64 (a : AV) (m : Nat) : Prop := ∃ n, a = .int .i64 n ∧ (Lit.int .i64 n).wf = true ∧ m = 1
def SU8 (a : AV) (m : Nat) : Prop := ∃ n, a = .int .u8 n ∧ (Lit.int .u8 n).wf = true ∧ m = 1
def SStr (a : AV) (m : Nat) : Prop := ∃ s, a = .str s ∧ m = s.length
def SBys := sSl 1 SU8
def SEnt := sAgg [SBys, S64, SBys, S64, S64, S64, SBys]
def SEnts := sSl 7 SEnt
def SFam := sAgg [SStr, S64, S64]
def SFams := sSl 3 SFam
def SSch := sAgg [SFams]
theorem s64_sz (a : AV) (m : Nat) (h : S64 a m) : a.sz = 1 := by obtain ⟨n, rfl, _⟩ := h; rfl
theorem su8_sz (a : AV) (m : Nat) (h : SU8 a m) : a.sz = 1 := by obtain ⟨n, rfl, _⟩ := h; rfl
theorem sBys_av {a : AV} {m : Nat} (h : SBys a m) : ∃ b : List UInt8, a = bys b ∧ b.length + 1 ≤ m := by
  obtain ⟨l, h1, h2, _⟩ := sSl_map (f := byteAV) (q := fun _ => 0) (fun a m ⟨n, h1, h2, h3⟩ => ⟨UInt8.ofNat n.toNat, by
    have hw : 0 ≤ n ∧ n ≤ 255 := by simpa [Lit.wf, IntKind.min, IntKind.max, IntKind.signed, IntKind.bits] using h2
    rw [h1]; simp only [byteAV]
    have : (UInt8.ofNat n.toNat).toNat = n.toNat := by simp; omega
    rw [this]; congr 1; omega, Nat.zero_le _, by omega⟩) h
  exact ⟨l, h1, h2⟩
theorem sEnt_av {a : AV} {m : Nat} (h : SEnt a m) : ∃ e : Ent, a = entAV e ∧ e.row.length + e.qual.length + e.value.length ≤ m ∧ 1 ≤ m := by
  obtain ⟨xs, rfl, hx, rfl⟩ := h
  obtain ⟨x0, xs, rfl, h0, hx⟩ := SAll_cons hx
  obtain ⟨x1, xs, rfl, h1, hx⟩ := SAll_cons hx
  obtain ⟨x2, xs, rfl, h2, hx⟩ := SAll_cons hx
  obtain ⟨x3, xs, rfl, h3, hx⟩ := SAll_cons hx
  obtain ⟨x4, xs, rfl, h4, hx⟩ := SAll_cons hx
  obtain ⟨x5, xs, rfl, h5, hx⟩ := SAll_cons hx
  obtain ⟨x6, xs, rfl, h6, hx⟩ := SAll_cons hx
  obtain rfl := SAll_nil hx
  · obtain ⟨b0, e0, l0⟩ := sBys_av h0
    obtain ⟨n1, e1, _, _⟩ := h1
    obtain ⟨b2, e2, l2⟩ := sBys_av h2
    obtain ⟨n3, e3, _, _⟩ := h3
    obtain ⟨n4, e4, _, _⟩ := h4
    obtain ⟨n5, e5, _, _⟩ := h5
    obtain ⟨b6, e6, l6⟩ := sBys_av h6
    refine ⟨⟨b0, n1, b2, n3, n4, n5, b6⟩, by simp [entAV, e0, e1, e2, e3, e4, e5, e6], ?_, by omega⟩
    simp only [List.map_cons, List.map_nil, List.sum_cons, List.sum_nil]
    omega
theorem sEnts_av {a : AV} {m : Nat} (h : SEnts a m) : ∃ l : List Ent, a = entsAV l ∧ l.length + 1 ≤ m ∧ ∀ e ∈ l, e.row.length + e.qual.length + e.value.length ≤ m :=
  sSl_map (q := fun e : Ent => e.row.length + e.qual.length + e.value.length) (fun a m h => by obtain ⟨e, h1, h2, h3⟩ := sEnt_av h; exact ⟨e, h1, h2, h3⟩) h
theorem sFam_av {a : AV} {m : Nat} (h : SFam a m) : ∃ e : Fml, a = famAV e ∧ 1 ≤ m := by
  obtain ⟨xs, rfl, hx, rfl⟩ := h
  obtain ⟨x0, xs, rfl, h0, hx⟩ := SAll_cons hx
  obtain ⟨x1, xs, rfl, h1, hx⟩ := SAll_cons hx
  obtain ⟨x2, xs, rfl, h2, hx⟩ := SAll_cons hx
  obtain rfl := SAll_nil hx
  · obtain ⟨b0, e0, _⟩ := h0
    obtain ⟨n1, e1, _, _⟩ := h1
    obtain ⟨n2, e2, _, _⟩ := h2
    exact ⟨⟨b0, n1, n2⟩, by simp [famAV, e0, e1, e2], by omega⟩
theorem sSch_av {a : AV} {m : Nat} (h : SSch a m) : ∃ s : List Fml, a = schAV s ∧ s.length ≤ m := by
  obtain ⟨xs, rfl, hx, rfl⟩ := h
  obtain ⟨x0, xs, rfl, h0, hx⟩ := SAll_cons hx
  obtain rfl := SAll_nil hx
  · obtain ⟨l, h1, h2, _⟩ := sSl_map (f := famAV) (q := fun _ => 0) (fun a m h => by obtain ⟨e, h1, h2⟩ := sFam_av h; exact ⟨e, h1, Nat.zero_le _, h2⟩) h0
    refine ⟨l, by simp [schAV, h1], ?_⟩
    simp only [List.map_cons, List.map_nil, List.sum_cons, List.sum_nil]
    omega
theorem r64 : Reads enc Tryz.prog W Rows.uptoBulk 3 S64 := reads_int bulkOK Tryz.underlying3
theorem rBys : Reads enc Tryz.prog W Rows.uptoBulk 67 SBys := reads_slice bulkOK Tryz.underlying67 (by kernel_rfl) (by decide) (reads_int bulkOK Tryz.underlying5) su8_sz
theorem rEnt : Reads enc Tryz.prog W Rows.uptoBulk 69 SEnt := reads_struct bulkOK Tryz.underlying69
  (fld_cons rfl rBys (off' := 1) (by kernel_rfl) (fld_cons rfl r64 (off' := 2) (by kernel_rfl) (fld_cons rfl rBys (off' := 3) (by kernel_rfl) (fld_cons rfl r64 (off' := 4) (by kernel_rfl) (fld_cons rfl r64 (off' := 5) (by kernel_rfl) (fld_cons rfl r64 (off' := 6) (by kernel_rfl) (fld_cons rfl rBys (off' := 7) (by kernel_rfl) (fld_nil (by kernel_rfl)))))))))
theorem sEnt_sz (a : AV) (m : Nat) (h : SEnt a m) : a.sz = 7 := by obtain ⟨e, rfl, _⟩ := sEnt_av h; exact entAV_sz e
theorem rEnts : Reads enc Tryz.prog W Rows.uptoBulk 28 SEnts := reads_slice bulkOK Tryz.underlying28 (by kernel_rfl) (by decide) rEnt sEnt_sz
theorem rFam : Reads enc Tryz.prog W Rows.uptoBulk 122 SFam := reads_struct bulkOK Tryz.underlying122
  (fld_cons rfl (reads_str bulkOK Tryz.underlying9) (off' := 1) (by kernel_rfl) (fld_cons rfl r64 (off' := 2) (by kernel_rfl) (fld_cons rfl r64 (off' := 3) (by kernel_rfl) (fld_nil (by kernel_rfl)))))
theorem sFam_sz (a : AV) (m : Nat) (h : SFam a m) : a.sz = 3 := by obtain ⟨e, rfl, _⟩ := sFam_av h; exact famAV_sz e
theorem rSch : Reads enc Tryz.prog W Rows.uptoBulk 27 SSch := reads_struct bulkOK Tryz.underlying27
  (fld_cons rfl (reads_slice bulkOK Tryz.underlying25 (by kernel_rfl) (by decide) rFam sFam_sz) (off' := 1) (by kernel_rfl) (fld_nil (by kernel_rfl)))
set_option maxRecDepth 100000 in
theorem argEnts {v : Value} {d : DataW H} {ps : List MemPlace} (hv : Value.okWide Tryz.prog W .any 0 28 v) (h : DataW.Trod enc Tryz.prog W 0 (fun _ => true) true 28 v d ps) :
    ∃ l : List Ent, Rel (c0 W) (entsAV l) false [v] ∧ l.length + 1 ≤ Rows.uptoBulk d ∧ ∀ e ∈ l, e.row.length + e.qual.length + e.value.length ≤ Rows.uptoBulk d := by
  obtain ⟨a, m, h1, h2, h3⟩ := reads_arg rEnts h
  obtain ⟨l, rfl, h4, h5⟩ := sEnts_av h1
  obtain ⟨aa, len, cap, rfl⟩ := okWide_slice Tryz.underlying28 hv
  exact ⟨l, rel_flat h2 (fun h => by simp [entsAV, AV.isAgg] at h) (fun _ => rfl), by omega, fun e he => by have := h5 e he; omega⟩
end
end Go.Proofs.YtijhkfhflpmajaaGreat
namespace Go.Proofs.YtijhkfhflpmajaaGreat
open Go Go.Sx Go.Rt Go.Proofs Go.ChangeShapes Go.WideShapes Go.ChangeAt Go.RowKit
section
variable {H : Type} {enc : TypeId × Value → H} {W : World}
def SInts := sSl 1 S64
theorem rInts : Reads enc Tryz.prog W Rows.uptoBulk 63 SInts := reads_slice bulkOK Tryz.underlying63 (by kernel_rfl) (by decide) r64 s64_sz
set_option maxRecDepth 100000 in
theorem argInts {v : Value} {d : DataW H} {ps : List MemPlace} (hv : Value.okWide Tryz.prog W .any 0 63 v) (h : DataW.Trod enc Tryz.prog W 0 (fun _ => true) true 63 v d ps) :
    ∃ l : List Int, Rel (c0 W) (intsAV l) false [v] := by
  obtain ⟨a, m, h1, h2, h3⟩ := reads_arg rInts h
  obtain ⟨l, rfl, _⟩ := sSl_map (f := fun x => AV.int .i64 x) (q := fun _ => 0) (fun a m ⟨n, h1, h2, h3⟩ => ⟨n, h1, Nat.zero_le _, by omega⟩) h1
  obtain ⟨aa, len, cap, rfl⟩ := okWide_slice Tryz.underlying63 hv
  exact ⟨l, rel_flat h2 (fun h => by simp [intsAV, AV.isAgg] at h) (fun _ => rfl)⟩
end
end Go.Proofs.YtijhkfhflpmajaaGreat
namespace Go.Proofs.YtijhkfhflpmajaaGreat
open Go Go.Sx Go.Rt Go.Proofs Go.ChangeShapes Go.WideShapes Go.ChangeAt Go.RowKit
section
variable {H : Type} {enc : TypeId × Value → H} {W : World}
def SBool (a : AV) (m : Nat) : Prop := ∃ b, a = .bool b ∧ m = 1
def SCas := sAgg [SSch, S64, SBool, S64, S64, S64]
theorem sCas_av {a : AV} {m : Nat} (h : SCas a m) : ∃ c : Cas, a = casAV c ∧ c.s.length ≤ m := by
  obtain ⟨xs, rfl, hx, rfl⟩ := h
  obtain ⟨x0, xs, rfl, h0, hx⟩ := SAll_cons hx
  obtain ⟨x1, xs, rfl, h1, hx⟩ := SAll_cons hx
  obtain ⟨x2, xs, rfl, h2, hx⟩ := SAll_cons hx
  obtain ⟨x3, xs, rfl, h3, hx⟩ := SAll_cons hx
  obtain ⟨x4, xs, rfl, h4, hx⟩ := SAll_cons hx
  obtain ⟨x5, xs, rfl, h5, hx⟩ := SAll_cons hx
  obtain rfl := SAll_nil hx
  obtain ⟨s, e0, l0⟩ := sSch_av h0
  obtain ⟨n1, e1, _, _⟩ := h1
  obtain ⟨b2, e2, _⟩ := h2
  obtain ⟨n3, e3, _, _⟩ := h3
  obtain ⟨n4, e4, _, _⟩ := h4
  obtain ⟨n5, e5, _, _⟩ := h5
  refine ⟨⟨s, n1, b2, n3, n4, n5⟩, by simp [casAV, e0, e1, e2, e3, e4, e5], ?_⟩
  simp only [List.map_cons, List.map_nil, List.sum_cons, List.sum_nil]
  omega
theorem rCas : Reads enc Tryz.prog W Rows.uptoBulk 62 SCas := reads_struct bulkOK Tryz.underlying62
  (fld_cons rfl rSch (off' := 1) (by kernel_rfl) (fld_cons rfl r64 (off' := 2) (by kernel_rfl) (fld_cons rfl (reads_bool bulkOK Tryz.underlying4) (off' := 3) (by kernel_rfl) (fld_cons rfl r64 (off' := 4) (by kernel_rfl) (fld_cons rfl r64 (off' := 5) (by kernel_rfl) (fld_cons rfl r64 (off' := 6) (by kernel_rfl) (fld_nil (by kernel_rfl))))))))
set_option maxRecDepth 100000 in
theorem argCase {v : Value} {d : DataW H} {ps : List MemPlace} (hv : Value.okWide Tryz.prog W .any 0 62 v) (h : DataW.Trod enc Tryz.prog W 0 (fun _ => true) true 62 v d ps) :
    ∃ c : Cas, Rel (c0 W) (casAV c) false [v] ∧ c.s.length ≤ Rows.uptoBulk d := by
  obtain ⟨a, m, h1, h2, h3⟩ := reads_arg rCas h
  obtain ⟨c, rfl, h4⟩ := sCas_av h1
  refine ⟨c, rel_flat h2 (fun _ => ?_) (fun h => by simp [casAV, AV.isAgg] at h), by omega⟩
  obtain ⟨cs, hcs, _⟩ := okWide_struct Tryz.underlying62 hv
  exact ⟨cs, hcs⟩
end
end Go.Proofs.YtijhkfhflpmajaaGreat