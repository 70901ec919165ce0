/- Own layer 'Sx', part G2: maps of plain keys, written; literals of slices in new owned memory. Of every program; no condition. -/
import Derived.Test.YtijhkfhflpmajaaGreatFA
import Derived.Orders
import Derived.Lib.BytesEntry
set_option linter.unusedSimpArgs false
set_option linter.unusedVariables false
namespace Go.Sx
open Go
def wMakeMap (P : Program) (H : Heap) (n : Nat) (t : TypeId) : Option AV → Option (Prop × AV × Heap × Nat)
  | none => some (True, .omap n, H.put n (some (.map [])), n + 1)
  | some (.int _ _) => some ((tMap P t).isSome = true, .omap n, H.put n (some (.map [])), n + 1)
  | _ => none
theorem Step.newMap {c : Ctx} {H : Heap} {n : Nat} {w : World} (hs : Sim c H n w) :
    Step c H w (c.addLoc n 0 (.blk w.heap.size 0 0)) (H.put n (some (.map []))) (n + 1) (w.alloc (.map #[] 0)) := by
  have hf := hs.fresh n (Nat.le_refl _)
  refine Step.renew (n' := n + 1) hs n (.map []) (.blk w.heap.size 0 0) (by omega) (by omega) (hf.2 0) (fun v _ => hf.2 v) (.alloc _ _ _) ?_ ?_ ?_ ?_
  · intro k' o' b _ hk' hb
    have := (hs.own k' o' hk').lt hb
    show (w.heap.push _)[b]? = _
    rw [Array.getElem?_push, if_neg (by omega)]
  · intro b a hb
    have : b < w.heap.size := by
      obtain ⟨t, fr, hx⟩ := hs.ro b a hb
      rcases Nat.lt_or_ge b w.heap.size with h | h
      · exact h
      · rw [Array.getElem?_eq_none h] at hx; simp at hx
    show (w.heap.push _)[b]? = _
    rw [Array.getElem?_push, if_neg (by omega)]
  · simp only [OwnOK]
    exact ⟨_, _, _, #[], 0, Ctx.addLoc_same, heap_push_new, by simp [RelM]⟩
  · intro b cap' e hl
    cases hl
    exact ⟨hs.ro_size (Nat.le_refl _), .inl (Nat.le_refl _)⟩
theorem ot_makeMap {P : Program} {H : Heap} {n : Nat} {dst : Option Tmp} {t : TypeId} {r0 : Option Operand} {ty : TypeId} {pos : String} {after : Array Edge} {guard : Option (Nat × Bool)} {ε : Operand → AV}
    {C : Prop} {r : AV} {H' : Heap} {n' : Nat} {K : ARes → Heap → Nat → Prop}
    (h : wMakeMap P H n t (r0.map ε) = some (C, r, H', n')) (hC : C) (hK : K (.val r) H' n') : OpT P ⟨dst, .makeMap t r0, ty, pos, after, guard⟩ ε H n K :=
  OpT.of_run fun c w ρv hs hr => by
    cases r0 with
    | none =>
      simp only [Option.map_none, wMakeMap, Option.some.injEq, Prod.mk.injEq] at h
      obtain ⟨rfl, rfl, rfl, rfl⟩ := h
      refine ⟨_, .map (some w.heap.size), _, _, _, w.alloc (.map #[] 0), .inl (by simp [execOp, Instr.makeMap]), Step.newMap hs, ?_, hK⟩
      simp only [Rel]; exact ⟨_, _, _, Ctx.addLoc_same, rfl⟩
    | some x =>
      have hx := hr x (by simp [Op.operands])
      simp only [Option.map_some] at h
      generalize ε x = xa at h hx
      cases xa <;> simp only [wMakeMap] at h <;> try (simp at h; done)
      simp only [Option.some.injEq, Prod.mk.injEq] at h
      obtain ⟨rfl, rfl, rfl, rfl⟩ := h
      obtain ⟨de, hde⟩ := Option.isSome_iff_exists.1 hC
      obtain ⟨d, et⟩ := de
      obtain ⟨kt, hu, hd⟩ := tMap_spec hde
      simp only [Rel, List.cons.injEq, and_true] at hx
      refine ⟨_, .map (some w.heap.size), _, _, _, w.alloc (.map #[] 0), .inl (by simp [execOp, Instr.makeMap, run_underlying' hu, hx, asInt, asIntOf]), Step.newMap hs, ?_, hK⟩
      simp only [Rel]; exact ⟨_, _, _, Ctx.addLoc_same, rfl⟩
def setK : List (AV × AV) → AV → AV → List (AV × AV)
  | [], k, v => [(k, v)]
  | (a, x) :: es, k, v => bif keySame k a then (a, v) :: es else (a, x) :: setK es k v
theorem setK_rel {c : Ctx} {d : TypeDesc} {k v : AV} {kv vv : Value} (hk : k.isKey d = true) (h : Rel c k false [kv]) (hv : Rel c v false [vv]) (clock : Nat) : ∀ (es : List (AV × AV)) (l : List MapEntry) (i : Nat), RelM c es l → (∀ e ∈ es, e.1.isKey d = true) →
    (Instr.findNow d kv l i = some none ∧ RelM c (setK es k v) (l ++ [⟨kv, vv, clock⟩])) ∨
      ∃ j e, Instr.findNow d kv l i = some (some (i + j, e.val)) ∧ l[j]? = some e ∧ e.key = kv ∧ RelM c (setK es k v) (l.modify j fun e => { e with key := kv, val := vv })
  | [], l, i, hr, _ => by
    simp only [RelM] at hr; subst hr
    exact .inl ⟨rfl, by simp only [setK, RelM]; exact ⟨_, [], rfl, h, hv, rfl⟩⟩
  | (a, x) :: es, l, i, hr, hks => by
    simp only [RelM] at hr
    obtain ⟨e, r, rfl, h1, h2, h3⟩ := hr
    have hka := hks (a, x) (by simp)
    have hs := keySame_rel hk hka h h1
    cases hb : keySame k a with
    | true =>
      obtain ⟨r', hr', hiff⟩ := MapKept.sameNow_of_keys (isKey_rel hk h) (isKey_rel hka h1)
      rw [hs, hb] at hr'
      cases hr'
      have ek := (hiff.1 rfl).symm
      refine .inr ⟨0, e, by simp [Instr.findNow, hs, hb], rfl, ek, ?_⟩
      simp only [setK, hb, cond_true, List.modify_zero_cons, RelM]
      exact ⟨_, _, rfl, by rw [← ek]; exact h1, hv, h3⟩
    | false =>
      rcases setK_rel hk h hv clock es r (i + 1) h3 (fun e he => hks e (by simp [he])) with ⟨h4, h5⟩ | ⟨j, e', h4, h5, h6, h7⟩
      · refine .inl ⟨by simp [Instr.findNow, hs, hb, h4], ?_⟩
        simp only [setK, hb, cond_false, List.cons_append, RelM]
        exact ⟨_, _, rfl, h1, h2, h5⟩
      · refine .inr ⟨j + 1, e', by simp [Instr.findNow, hs, hb, h4]; omega, by simpa using h5, h6, ?_⟩
        simp only [setK, hb, cond_false, List.modify_succ_cons, RelM]
        exact ⟨_, _, rfl, h1, h2, h7⟩
def wMapUpM (P : Program) (H : Heap) (n k : Nat) (key v : AV) (es : List (AV × AV)) : Option (TypeDesc × TypeId) → Option (Prop × AV × Heap × Nat)
  | some (d, _) => some (key.isKey d = true ∧ (∀ e ∈ es, e.1.isKey d = true), .junk, H.put k (some (.map (setK es key v))), n)
  | none => none
def wMapUpO (P : Program) (H : Heap) (n k : Nat) (t : TypeId) (key v : AV) : Option AObj → Option (Prop × AV × Heap × Nat)
  | some (.map es) => wMapUpM P H n k key v es (tMap P t)
  | _ => none
def wMapUp (P : Program) (H : Heap) (n : Nat) (t : TypeId) (key v : AV) : AV → Option (Prop × AV × Heap × Nat)
  | .omap k => wMapUpO P H n k t key v (H k)
  | _ => none
theorem Step.setMap {c : Ctx} {H : Heap} {n : Nat} {w : World} (hs : Sim c H n w) {k b cap e : Nat} {es es' : List (AV × AV)} (hk : H k = some (.map es)) (hl : c.ρ k 0 = some (.blk b cap e)) {l : Array MapEntry} {clock : Nat} {l' : Array MapEntry} {clock' : Nat}
    (hb : w.heap[b]? = some (.map l clock)) (hr : RelM c es' l'.toList) : Step c H w c (H.put k (some (.map es'))) n { w with heap := w.heap.setIfInBounds b (.map l' clock') } := by
  have hbo : blockOf c k (.map es) = some b := by simp [blockOf, AObj.ver, hl]
  obtain ⟨hself, hother⟩ := MapKept.heap_set (o' := .map l' clock') hb
  refine Step.write hs k _ (.map es') hk rfl ⟨rfl, rfl, rfl, by simp, fun b' _ hS => hother b' fun e => hS ⟨k, _, hk, by rw [e]; exact hbo⟩⟩
    (fun k' o' b' hne hk' hb' => hother b' fun e => hne (hs.inj k' k o' _ b hk' hk (by rw [← e]; exact hb') hbo))
    (fun b' a' hb' => hother b' fun e => by have := hs.sep k _ b hk hbo; rw [← e, hb'] at this; simp at this) ?_
  simp only [OwnOK]
  exact ⟨b, cap, e, l', clock', hl, hself, hr⟩
theorem ot_mapUp {P : Program} {H : Heap} {n : Nat} {dst : Option Tmp} {t : TypeId} {m key v : Operand} {ty : TypeId} {pos : String} {after : Array Edge} {guard : Option (Nat × Bool)} {ε : Operand → AV}
    {C : Prop} {r : AV} {H' : Heap} {n' : Nat} {K : ARes → Heap → Nat → Prop}
    (h : wMapUp P H n t (ε key) (ε v) (ε m) = some (C, r, H', n')) (hC : C) (hK : K (.val r) H' n') : OpT P ⟨dst, .mapUpdate t m key v, ty, pos, after, guard⟩ ε H n K :=
  OpT.of_run fun c w ρv hs hr => by
    have hm := hr m (by simp [Op.operands])
    have hkr := hr key (by simp [Op.operands])
    have hvr := hr v (by simp [Op.operands])
    generalize ε m = ma at h hm
    generalize ε key = ka at h hkr
    generalize ε v = va at h hvr
    cases ma <;> simp only [wMapUp] at h <;> try (simp at h; done)
    rename_i k
    unfold wMapUpO at h
    split at h
    · rename_i es hk
      cases ht : tMap P t with
      | none => rw [ht] at h; simp [wMapUpM] at h
      | some de =>
        obtain ⟨d, et⟩ := de
        rw [ht] at h
        simp only [wMapUpM, Option.some.injEq, Prod.mk.injEq] at h
        obtain ⟨rfl, rfl, rfl, rfl⟩ := h
        obtain ⟨kt, hu, hd⟩ := tMap_spec ht
        simp only [Rel, List.cons.injEq, and_true] at hm
        obtain ⟨b, cap, esz, hl, ev⟩ := hm
        have ho := hs.own k _ hk
        simp only [OwnOK] at ho
        obtain ⟨b', cap', e', l, clock, hl', hb, hrm⟩ := ho
        rw [hl] at hl'; cases hl'
        have hkey := isKey_rel hC.1 hkr
        have hck := MapKept.run_checkKey (P := P) (w := w) hd hkey false 9999
        rcases setK_rel hC.1 hkr hvr clock es l.toList 0 hrm hC.2 with ⟨h1, h2⟩ | ⟨j, e, h1, h2, h3, h4⟩
        · refine ⟨.junk, undef, c, _, n, _, .inr ⟨?_, rfl⟩, Step.setMap hs hk hl hb (l' := l.push ⟨ρv key, ρv v, clock⟩) (clock' := clock + 1) (by simpa using h2), by simp [Rel], hK⟩
          simp [execOp, ev, Instr.mapUpdate, run_underlying' hu, MapKept.run_getObj_map hb, hck, MapKept.run_findKey hd h1, MapKept.run_setObj_map _ hb, Result.andThen]
        · have hj : l[j]? = some e := by simpa using h2
          refine ⟨.junk, undef, c, _, n, _, .inr ⟨?_, rfl⟩, Step.setMap hs hk hl hb (l' := l.modify j fun e => { e with key := ρv key, val := ρv v }) (clock' := clock) (by simpa using h4), by simp [Rel], hK⟩
          simp [execOp, ev, Instr.mapUpdate, run_underlying' hu, MapKept.run_getObj_map hb, hck, MapKept.run_findKey hd h1, hj, h3, MapKept.run_keyThatStays hkey, MapKept.run_setObj_map _ hb, Result.andThen]
    · simp at h
def wBSl (P : Program) (H : Heap) (n : Nat) (t : TypeId) (len : Nat) (idx : List Nat) (xs : List AV) : Option (Prop × AV × Heap × Nat) :=
  match tEl P t with
  | some (s, _) => some (len = xs.length ∧ idx.length = xs.length ∧ partsOK 0 idx = true ∧ 0 < len ∧ len * s ≤ 2 ^ 24 ∧ (∀ x ∈ xs, x.sz = s ∧ x.memOK = true), .osl n 0 0 len, H.put n (some (.arr 0 s xs)), n + 1)
  | none => none
theorem ot_buildSlice {P : Program} {H : Heap} {n : Nat} {dst : Option Tmp} {t : TypeId} {len : Nat} {ps : Array (Nat × Operand)} {ty : TypeId} {pos : String} {after : Array Edge} {guard : Option (Nat × Bool)} {ε : Operand → AV}
    {C : Prop} {r : AV} {H' : Heap} {n' : Nat} {K : ARes → Heap → Nat → Prop}
    (h : wBSl P H n t len (ps.toList.map (·.1)) (ps.toList.map fun p => ε p.2) = some (C, r, H', n')) (hC : C) (hK : K (.val r) H' n') : OpT P ⟨dst, .buildSlice t len ps, ty, pos, after, guard⟩ ε H n K :=
  OpT.of_run fun c w ρv hs hr => by
  unfold wBSl at h
  split at h
  · rename_i s bb ht
    simp only [Option.some.injEq, Prod.mk.injEq] at h
    obtain ⟨rfl, rfl, rfl, rfl⟩ := h
    obtain ⟨e1, e2, e3, e4, e5, e6⟩ := hC
    obtain ⟨e, i, z, hu, hi, hz, hzs, hpos, hsz, _⟩ := tEl_spec ht
    obtain ⟨ps⟩ := ps
    simp only at e1 e2 e3 e6
    have hT : RelT c (ps.map fun p => ε p.2) (ps.map fun p => ρv p.2) := by
      have := RelT.of_map (c := c) (ε := ε) (ρv := ρv) (ps.map (·.2)) (fun x hx => hr x (by simp only [Op.operands]; simpa using hx))
      simpa [List.map_map, Function.comp_def] using this
    obtain ⟨hF, hsizes⟩ := RelF.of_vals _ _ hT (fun x hx => (e6 x hx).2)
    have hvs : ∀ v ∈ (ps.map fun p => ρv p.2), v.cells.size = s := fun v hv => by
      obtain ⟨j, hj⟩ := List.mem_iff_getElem?.1 hv
      have hjl : j < (ps.map fun p => ε p.2).length := by
        rcases Nat.lt_or_ge j (ps.map fun p => ε p.2).length with h | h
        · exact h
        · rw [List.getElem?_eq_none (by simpa using h)] at hj; simp at hj
      rw [hsizes j _ v (List.getElem?_eq_getElem hjl) hj]
      exact (e6 _ (List.getElem_mem hjl)).1
    have hl : len = ps.length := by simpa using e1
    obtain ⟨arr, ha, hal⟩ := fill_seq s (ps.map fun p => ρv p.2) 0 [] ((List.range (len * s)).map (z.cells[· % z.cells.size]!)) (by simp) (by simp [hl]) hvs
    have hzip : (List.range' 0 (ps.map fun p => ρv p.2).length).zip (ps.map fun p => ρv p.2) = ps.map fun p => (p.1, ρv p.2) := by
      have := partsOK_range _ _ e3
      have e : List.range' 0 (ps.map fun p => ρv p.2).length = ps.map (·.1) := by rw [this]; simp
      rw [e, List.zip_map']
    rw [hzip] at ha
    have hds := (RelF.len _ _ hF).1
    rw [AV.szs_uniform (fun x hx => (e6 x hx).1)] at hds
    have hsz2 : arr.size = len * s := by
      have h1 : arr.toList = ((ps.map fun p => ρv p.2).flatMap fun v => v.cells.toList) := by simpa using hal
      have h2 : arr.size = arr.toList.length := by simp
      rw [h2, h1, hds, e1]
    refine ⟨_, .slice (some ⟨w.heap.size, 0, none⟩) len len, _, _, _, w.alloc (.cells arr e), .inl ?_, Step.newOwn hs arr e len s _ _ (fun x hx => (e6 x hx).1) (by rw [← e1]; exact Nat.le_refl _) hsz2 hF (At.self (by simpa using hal)), ?_, hK⟩
    · have hne : ¬ len * i.size = 0 := by rw [hsz]; have := Nat.mul_pos e4 (hsz ▸ hpos); omega
      have hsm : ¬ len * i.size > 2 ^ 24 := by rw [hsz]; omega
      have hfill : Instr.fill (fun j => some (j * i.size, i.size)) ((Array.range (len * i.size)).map (z.cells[· % z.cells.size]!)) ((ps.map fun p => (p.1, ρv p.2)).toArray).toList = some arr := by
        rw [hsz]
        have : (Array.range (len * s)).map (z.cells[· % z.cells.size]!) = ([] ++ (List.range (len * s)).map (z.cells[· % z.cells.size]!)).toArray := by
          apply Array.ext'; simp
        rw [this]; exact ha
      have hrun : (Instr.buildSlice t len (ps.map fun p => (p.1, ρv p.2)).toArray).run P w = .ok (.slice (some ⟨w.heap.size, 0, none⟩) len len) (w.alloc (.cells arr e)) := by
        simp only [Instr.buildSlice, Sem.run_bind, run_underlying' hu, Result.andThen_ok, run_sizeOf' hi]
        simp only [hsm, hne, if_false, Sem.run_ite, Sem.run_bind, zeroValue, typeInfo, run_program, hi, hz, Sem.run_pure, Result.andThen_ok, hfill, newRow, run_newObj]
        rfl
      simp [execOp, hrun]
    · simp only [Rel]
      exact ⟨_, Ctx.addLoc_same, len, 0, Nat.le_refl _, by omega, .inr (by simp), rfl⟩
  · simp at h
end Go.Sx
namespace Go.Sx
open Go
def wConvO (P : Program) (H : Heap) (n : Nat) (s d : TypeId) (k ver off len : Nat) : Option AObj → Option (Prop × AV × Heap × Nat)
  | some (.arr ver' e els) => some (s = d ∧ tIsBy P s = true ∧ ver' = ver ∧ off = 0 ∧ len = els.length ∧ 0 < els.length, .sl e els, H.put k none, n)
  | _ => none
def wConv (P : Program) (H : Heap) (n : Nat) (s d : TypeId) : AV → Option (Prop × AV × Heap × Nat)
  | .osl k ver off len => wConvO P H n s d k ver off len (H k)
  | _ => none
theorem Sim.fringe {c : Ctx} {H : Heap} {n : Nat} {w : World} (h : Sim c H n w) {b : Nat} {a : Array Value} {ty : TypeId} {fr fr' : Nat × Nat} (hb : c.ro b = some a) (hw : w.heap[b]? = some (.cells a ty fr)) :
    Sim c H n { w with heap := w.heap.setIfInBounds b (.cells a ty fr') } := by
  have hlt : b < w.heap.size := by
    rcases Nat.lt_or_ge b w.heap.size with h | h
    · exact h
    · rw [Array.getElem?_eq_none h] at hw; simp at hw
  have hself : (w.heap.setIfInBounds b (.cells a ty fr'))[b]? = some (.cells a ty fr') := by simp [hlt]
  have hother : ∀ j, j ≠ b → (w.heap.setIfInBounds b (.cells a ty fr'))[j]? = w.heap[j]? := fun j hj => by
    rw [Array.getElem?_setIfInBounds]; rw [if_neg (Ne.symm hj)]
  exact {
    ro := fun b' a' hb' => by
      by_cases e : b' = b
      · subst e
        rw [hb] at hb'; cases hb'
        exact ⟨_, _, hself⟩
      · show ∃ ty fr, (w.heap.setIfInBounds b _)[b']? = _
        rw [hother b' e]; exact h.ro b' a' hb'
    own := fun k o hk => (h.own k o hk).mono (.refl _) (fun b' hb' => by
      have : b' ≠ b := fun e => by subst e; have := h.sep k o b' hk hb'; rw [hb] at this; simp at this
      exact hother b' this)
    sep := h.sep
    inj := h.inj
    fresh := h.fresh
    vers := h.vers }
theorem modify_set {a : Array Obj} {i : Nat} {x : Obj} {f : Obj → Obj} (h : a[i]? = some x) : a.modify i f = a.setIfInBounds i (f x) := by
  apply Array.ext_getElem?
  intro j
  rw [Array.getElem?_modify, Array.getElem?_setIfInBounds]
  by_cases e : i = j
  · subst e
    have hlt : i < a.size := by
      rcases Nat.lt_or_ge i a.size with h' | h'
      · exact h'
      · rw [Array.getElem?_eq_none h'] at h; simp at h
    have : a[i] = x := by rw [Array.getElem?_eq_getElem hlt] at h; simpa using h
    simp [hlt, this]
  · simp [e]
theorem ot_conv {P : Program} {H : Heap} {n : Nat} {dst : Option Tmp} {s d : TypeId} {x : Operand} {ty : TypeId} {pos : String} {after : Array Edge} {guard : Option (Nat × Bool)} {ε : Operand → AV}
    {C : Prop} {r : AV} {H' : Heap} {n' : Nat} {K : ARes → Heap → Nat → Prop}
    (h : wConv P H n s d (ε x) = some (C, r, H', n')) (hC : C) (hK : K (.val r) H' n') : OpT P ⟨dst, .convert s d x, ty, pos, after, guard⟩ ε H n K :=
  OpT.of_run fun c w ρv hs hr => by
    have hx := hr x (by simp [Op.operands])
    generalize ε x = xa at h hx
    cases xa <;> simp only [wConv] at h <;> try (simp at h; done)
    rename_i k ver off len
    cases hk : H k with
    | none => rw [hk] at h; simp [wConvO] at h
    | some o =>
      cases o with
      | map es => rw [hk] at h; simp [wConvO] at h
      | arr ver' e els =>
        rw [hk] at h
        simp only [wConvO, Option.some.injEq, Prod.mk.injEq] at h
        obtain ⟨rfl, rfl, rfl, rfl⟩ := h
        obtain ⟨rfl, hby, rfl, rfl, rfl, hpos⟩ := hC
        obtain ⟨el, hu, he⟩ := tIsBy_spec hby
        obtain ⟨c', hst, hfz, _⟩ := Step.freeze hs k ver' e els hk
        have hrel := hfz 0 els.length (ρv x) (by omega) hx
        have ho := hs.own k _ hk
        simp only [OwnOK] at ho
        obtain ⟨l, hl, hm⟩ := ho
        have hx' := hx
        simp only [Rel] at hx'
        obtain ⟨l', hl', hmm⟩ := hx'
        rw [hl] at hl'; cases hl'
        cases l with
        | nil => have : els = [] := hm; subst this; simp at hpos
        | blk b cap e' =>
          obtain ⟨he', hz, hc, arr, tty, ds, hb, hsz, hrf, ha⟩ := hm
          obtain ⟨cp, o', h1, h2, h3, ev⟩ := hmm
          have ev : ρv x = .slice (some ⟨b, o', none⟩) els.length cp := by simpa using ev
          have hbo : blockOf c k (.arr ver' e els) = some b := by simp [blockOf, AObj.ver, hl]
          rw [List.drop_zero, List.take_length] at hrel
          have hro : c'.ro b = some arr := by
            have hrel2 := hrel
            rw [ev] at hrel2
            simp only [Rel] at hrel2
            obtain ⟨a0, cap0, e0, _, _, h4⟩ := hrel2
            rcases h4 with h4 | ⟨bb, off, arr', ds', e1, h5, _, _⟩
            · subst h4; simp at hpos
            · simp only [List.cons.injEq, and_true, Value.slice.injEq] at e0
              obtain ⟨e0, _, _⟩ := e0
              rw [← e0] at e1
              simp only [Option.some.injEq, Addr.mk.injEq, and_true] at e1
              obtain ⟨rfl, _⟩ := e1
              obtain ⟨ty2, fr2, hw2⟩ := hst.sim.ro b arr' h5
              rw [hb] at hw2
              simp only [Option.some.injEq, Obj.cells.injEq] at hw2
              rw [h5, hw2.1]
          have hsh : w.shape? b = some (tty, arr.size) := by unfold World.shape?; rw [hb]
          refine ⟨_, ρv x, c', H.put k none, n, { w with heap := w.heap.setIfInBounds b (.cells arr tty (arr.size, arr.size + 1)) }, .inl ?_, ?_, hrel, hK⟩
          · have hfr : w.freeze ⟨b, arr.size, none⟩ 1 = { w with heap := w.heap.setIfInBounds b (.cells arr tty (arr.size, arr.size + 1)) } := by
              unfold World.freeze
              rw [if_neg (by decide), modify_set hb]
              rfl
            simp [execOp, ev, convert, run_underlying' hu, run_underlying' he, markStringish, hsh, hfr]
          · exact {
              le := hst.le
              sim := hst.sim.fringe hro hb
              fr := {
                os := rfl
                tape := rfl
                output := rfl
                size := by simp
                keep := fun b' hb' hS => by
                  have : b' ≠ b := fun e => hS ⟨k, _, hk, by rw [e]; exact hbo⟩
                  show (w.heap.setIfInBounds b _)[b']? = _
                  rw [Array.getElem?_setIfInBounds, if_neg (Ne.symm this)] }
              new := hst.new }
end Go.Sx
namespace Go.Sx
open Go
inductive OpClass where
  | q
  | w
  | c (fo : Operand) (args : Array Operand)
def opClass : Op → OpClass
  | .store _ _ _ | .box _ _ | .alloc _ | .makeMap _ _ | .mapUpdate _ _ _ _ | .buildSlice _ _ _ => .w
  | .call ⟨.builtin .append, _, _⟩ => .w
  | .call ⟨.value fo, args, _⟩ => .c fo args
  | .convert s d _ => if s = d then .w else .q
  | _ => .q
def wAppL (P : Program) (H : Heap) (n : Nat) (T : Nat → AV) : List Operand → List TypeId → Option (Prop × AV × Heap × Nat)
  | [x, y], [t, t'] => if t = t' then wAppend P H n t (evO T x) (evO T y) else none
  | _, _ => none
def wBS (P : Program) (z : TypeId → AV) (H : Heap) (n : Nat) (T : Nat → AV) (t : TypeId) (len : Nat) (ps : Array (Nat × Operand)) : AV → Option (Prop × AV × Heap × Nat)
  | .bool true => wBSl P H n t len (ps.toList.map (·.1)) (ps.toList.map fun p => evO T p.2)
  | _ => (opQ P z H true T (.buildSlice t len ps)).map fun r => (r.1, r.2, H, n)
def wCv (P : Program) (z : TypeId → AV) (H : Heap) (n : Nat) (T : Nat → AV) (s d : TypeId) (x : Operand) : AV → Option (Prop × AV × Heap × Nat)
  | .osl k ver off len => wConv P H n s d (.osl k ver off len)
  | _ => (opQ P z H true T (.convert s d x)).map fun r => (r.1, r.2, H, n)
def opW (P : Program) (z : TypeId → AV) (H : Heap) (n : Nat) (T : Nat → AV) : Op → Option (Prop × AV × Heap × Nat)
  | .store t x v => wStore P H n t (evO T x) (evO T v)
  | .box _ x => wBox H n (evO T x)
  | .alloc t => wAlloc P z H n t
  | .call ⟨.builtin .append, args, ts⟩ => wAppL P H n T args.toList ts.toList
  | .makeMap t r => wMakeMap P H n t (r.map (evO T))
  | .mapUpdate t m k v => wMapUp P H n t (evO T k) (evO T v) (evO T m)
  | .buildSlice t len ps => wBS P z H n T t len ps (z 4294967295)
  | .convert s d x => wCv P z H n T s d x (evO T x)
  | _ => none
theorem ot_wBS {P : Program} {z : TypeId → AV} {H : Heap} {n : Nat} {T : Nat → AV} {dst : Option Tmp} {t : TypeId} {len : Nat} {ps : Array (Nat × Operand)} {ty : TypeId} {pos : String} {after : Array Edge} {guard : Option (Nat × Bool)} {zz : AV}
    {C : Prop} {r : AV} {H' : Heap} {n' : Nat} {K : ARes → Heap → Nat → Prop}
    (h : wBS P z H n T t len ps zz = some (C, r, H', n')) (hC : C) (hK : K (.val r) H' n') : OpT P ⟨dst, .buildSlice t len ps, ty, pos, after, guard⟩ (evO T) H n K := by
  unfold wBS at h
  split at h
  · exact ot_buildSlice h hC hK
  · cases hq : opQ P z H true T (.buildSlice t len ps) with
    | none => rw [hq] at h; simp at h
    | some p =>
      rw [hq] at h
      simp only [Option.map_some, Option.some.injEq, Prod.mk.injEq] at h
      obtain ⟨rfl, rfl, rfl, rfl⟩ := h
      exact OpT.of_qt (opQ_sound hq rfl hC) hK
theorem ot_wCv {P : Program} {z : TypeId → AV} {H : Heap} {n : Nat} {T : Nat → AV} {dst : Option Tmp} {s d : TypeId} {x : Operand} {ty : TypeId} {pos : String} {after : Array Edge} {guard : Option (Nat × Bool)}
    {C : Prop} {r : AV} {H' : Heap} {n' : Nat} {K : ARes → Heap → Nat → Prop}
    (h : wCv P z H n T s d x (evO T x) = some (C, r, H', n')) (hC : C) (hK : K (.val r) H' n') : OpT P ⟨dst, .convert s d x, ty, pos, after, guard⟩ (evO T) H n K := by
  unfold wCv at h
  split at h
  · rename_i he
    exact ot_conv (ε := evO T) (by rw [he]; exact h) hC hK
  · cases hq : opQ P z H true T (.convert s d x) with
    | none => rw [hq] at h; simp at h
    | some p =>
      rw [hq] at h
      simp only [Option.map_some, Option.some.injEq, Prod.mk.injEq] at h
      obtain ⟨rfl, rfl, rfl, rfl⟩ := h
      exact OpT.of_qt (opQ_sound hq rfl hC) hK
theorem opW_sound {P : Program} {z : TypeId → AV} {H : Heap} {n : Nat} {T : Nat → AV} {dst : Option Tmp} {op : Op} {ty : TypeId} {pos : String} {after : Array Edge} {guard : Option (Nat × Bool)}
    {C : Prop} {r : AV} {H' : Heap} {n' : Nat} {K : ARes → Heap → Nat → Prop}
    (h : opW P z H n T op = some (C, r, H', n')) (hC : C) (hK : K (.val r) H' n') : OpT P ⟨dst, op, ty, pos, after, guard⟩ (evO T) H n K := by
  unfold opW at h
  split at h
  · exact ot_store h hC hK
  · exact ot_box h hC hK
  · exact ot_alloc h hC hK
  · rename_i args ts
    unfold wAppL at h
    split at h
    · rename_i x y t t' e1 e2
      split at h
      · rename_i e
        subst e
        obtain ⟨as⟩ := args
        obtain ⟨tts⟩ := ts
        simp only at e1 e2
        subst e1; subst e2
        exact ot_append h hC hK
      · simp at h
    · simp at h
  · exact ot_makeMap h hC hK
  · exact ot_mapUp h hC hK
  · exact ot_wBS h hC hK
  · exact ot_wCv h hC hK
  · simp at h
def dOK (N : Nat) : Option Tmp → Prop
  | none => True
  | some d => d < N
structure callG (P : Program) (g : Bool) (fv : AV) (args : List AV) (H : Heap) (n : Nat) (k : AV → Heap → Nat → Prop) (kp : AV → Heap → Nat → Prop) : Prop where
  yes : g = true → callK P fv args H n (fun r H' n' => k (.opt true r) H' n') kp
  no : g = false → ∃ r, k (.opt false r) H n
@[congr] theorem callG_congr {P : Program} {g g' : Bool} {fv fv' : AV} {args args' : List AV} {H H' : Heap} {n n' : Nat} {k kp : AV → Heap → Nat → Prop} (h0 : g = g') (h1 : fv = fv') (h2 : args = args') (h3 : H = H') (h4 : n = n') :
    callG P g fv args H n k kp = callG P g' fv' args' H' n' k kp := by rw [h0, h1, h2, h3, h4]
def erun (P : Program) (z : TypeId → AV) (N : Nat) (ops : Array Oper) : List Oper → (Nat → AV) → Heap → Nat → (AEx → (Nat → AV) → Heap → Nat → Prop) → Prop
  | [], T, H, n, Q => Q .normal T H n
  | ⟨dst, op, _, _, _, none⟩ :: os, T, H, n, Q => dOK N dst ∧ match opClass op with
    | .q => cont (opQ P z H true T op) fun r => erun P z N ops os (tput T dst r) H n Q
    | .w => contW (opW P z H n T op) fun r H' n' => erun P z N ops os (tput T dst r) H' n' Q
    | .c fo args => callK P (evO T fo) (args.toList.map (evO T)) H n (fun r H' n' => erun P z N ops os (tput T dst r) H' n' Q) (fun p H' n' => Q (.pan p) T H' n')
  | ⟨dst, op, _, _, _, some (j, b)⟩ :: os, T, H, n, Q => dOK N dst ∧ contB ((gtmp ops j).bind fun t => gval (T t) b) fun g => match opClass op with
    | .q => contG g (opQ P z H g T op) fun r => erun P z N ops os (tput T dst r) H n Q
    | .w => (g = true → contW (opW P z H n T op) fun r H' n' => erun P z N ops os (tput T dst r) H' n' Q) ∧ (g = false → erun P z N ops os (tput T dst (.opt false .junk)) H n Q)
    | .c fo args => callG P g (strip g (evO T fo)) (args.toList.map fun x => strip g (evO T x)) H n (fun r H' n' => erun P z N ops os (tput T dst r) H' n' Q) (fun p H' n' => Q (.pan p) T H' n')
def lrun (P : Program) (N : Nat) (ops : Array Oper) (l : List Oper) (T : Nat → AV) (H : Heap) (n : Nat) (Q : AEx → (Nat → AV) → Heap → Nat → Prop) : Prop :=
  ∀ (c : Ctx) (w : World) (a : Act), Sim c H n w → RelTmps c T a.tmps → a.tmps.size = N → a.defers = [] → wpList P ops (APost N c H w Q) l a w
section
variable {P : Program} {z : TypeId → AV} {N : Nat} {ops : Array Oper} {T : Nat → AV} {H : Heap} {n : Nat} {Q : AEx → (Nat → AV) → Heap → Nat → Prop}
theorem wpList_mono {Q Q' : Exit → Act → World → Prop} (hq : ∀ e a w, Q e a w → Q' e a w) : ∀ (l : List Oper) (a : Act) (w : World), wpList P ops Q l a w → wpList P ops Q' l a w
  | [], _, _, h => hq _ _ _ h
  | o :: l, a, w, h => by
    have ih := wpList_mono hq l
    unfold wpList at h ⊢
    split
    · rename_i hw
      rw [if_pos hw] at h
      refine h.imp (fun h => ?_) (fun ⟨h1, a', w', h2⟩ => ⟨h1, a', w', hq _ _ _ h2⟩)
      unfold Oper.wp at h ⊢
      generalize (execOp a.eval o).run P w = r at *
      cases r with
      | ok nx w' =>
        cases nx <;> simp only [Oper.upon] at h ⊢ <;> first
          | exact ih _ _ h
          | exact Calls.mono h (fun e w'' he => by cases e <;> first | exact ih _ _ he | exact hq _ _ _ he | (obtain ⟨a', w', h2⟩ := he; exact ⟨a', w', hq _ _ _ h2⟩))
          | exact Rows.mono h (fun _ _ he => ih _ _ he)
          | exact h
      | halt x w' => cases x <;> simp only [Oper.upon] at h ⊢ <;> first | exact hq _ _ _ h | exact h
    · rename_i hw
      rw [if_neg hw] at h
      exact ih _ _ h
theorem put_size (a : Act) (dst : Option Tmp) (v : Value) : (a.put dst v).tmps.size = a.tmps.size := by cases dst <;> simp [Act.put]
theorem put_defers' (a : Act) (dst : Option Tmp) (v : Value) : (a.put dst v).defers = a.defers := by cases dst <;> rfl
theorem lrun_step {o : Oper} {os : List Oper} {ε : Operand → AV} {k : AV → Heap → Nat → Prop} {kp : AV → Heap → Nat → Prop} (hd : dOK N o.dst)
    (h : OpT P o ε H n (fun res H' n' => match res with | .val r => k r H' n' | .pan p => kp p H' n'))
    {c : Ctx} {w : World} {a : Act} (hs : Sim c H n w) (hr : RelTmps c T a.tmps) (hN : a.tmps.size = N) (hdf : a.defers = []) (hw : Region.wanted o (yielded ops a.tmps) = true)
    (hε : ∀ x ∈ o.op.operands, Rel c (ε x) false [a.eval x]) (f : AV → AV) (hf : ∀ c' r v, Rel c' r false [v] → Rel c' (f r) false [v])
    (hk : ∀ r H' n', k r H' n' → lrun P N ops os (tput T o.dst (f r)) H' n' Q) (hp : ∀ p H' n', kp p H' n' → Q (.pan p) T H' n') :
    wpList P ops (APost N c H w Q) (o :: os) a w := by
  unfold wpList
  rw [if_pos hw]
  left
  have hd' : ∀ d, o.dst = some d → d < a.tmps.size := fun d hd2 => by rw [hd2] at hd; rw [hN]; exact hd
  refine h c w a hs hε _ _ (fun r v c' H' n' w' hK hst hrel => ?_) (fun p v c' H' n' w' hK hst hrel => ?_)
  · refine wpList_mono (fun e a w hp => hp.step hst) os _ _ (hk r H' n' hK c' w' _ hst.sim (tput_rel (RelTmps.mono hst.le hr) (hf _ _ _ hrel) hd') (by rw [put_size, hN]) (by rw [put_defers', hdf]))
  · exact ⟨.pan p, c', T, H', n', hp p H' n' hK, ⟨v, rfl, hrel⟩, hst, RelTmps.mono hst.le hr, hN, hdf⟩
theorem lrun_skip {o : Oper} {os : List Oper} (hd : dOK N o.dst)
    {c : Ctx} {w : World} {a : Act} (hs : Sim c H n w) (hr : RelTmps c T a.tmps) (hN : a.tmps.size = N) (hdf : a.defers = []) (hw : Region.wanted o (yielded ops a.tmps) = false) (r : AV)
    (h : lrun P N ops os (tput T o.dst (.opt false r)) H n Q) : wpList P ops (APost N c H w Q) (o :: os) a w := by
  unfold wpList
  rw [if_neg (by simp [hw])]
  have hd' : ∀ d, o.dst = some d → d < a.tmps.size := fun d hd2 => by rw [hd2] at hd; rw [hN]; exact hd
  exact h c w _ hs (tput_rel hr (by simp [Rel]) hd') (by rw [put_size, hN]) (by rw [put_defers', hdf])
theorem wanted_none {o : Oper} {y : Nat → Option Bool} (h : o.guard = none) : Region.wanted o y = true := by simp [Region.wanted, h]
theorem opt_rel {g : Bool} {c : Ctx} {r : AV} {v : Value} (hg : g = true) (h : Rel c r false [v]) : Rel c (.opt g r) false [v] := by
  simp only [Rel]; exact .inl ⟨hg, h⟩
theorem erun_sound : ∀ (l : List Oper) (T : Nat → AV) (H : Heap) (n : Nat), erun P z N ops l T H n Q → lrun P N ops l T H n Q
  | [], T, H, n, h => fun c w a hs hr hN hd => ⟨.normal, c, T, H, n, h, trivial, .refl hs, hr, hN, hd⟩
  | ⟨dst, op, ty, pos, after, none⟩ :: os, T, H, n, h => fun c w a hs hr hN hd => by
    unfold erun at h
    obtain ⟨hdst, h⟩ := h
    have hw : Region.wanted ⟨dst, op, ty, pos, after, none⟩ (yielded ops a.tmps) = true := wanted_none rfl
    have hε : ∀ x ∈ op.operands, Rel c (evO T x) false [a.eval x] := fun x _ => evO_rel hr x
    split at h
    · cases hq : opQ P z H true T op with
      | none => rw [hq] at h; exact h.elim
      | some p =>
        obtain ⟨C, r⟩ := p
        rw [hq] at h
        obtain ⟨hC, h⟩ := h
        exact lrun_step (k := fun r' H' n' => r' = r ∧ H' = H ∧ n' = n) (kp := fun _ _ _ => False) hdst (OpT.of_qt (opQ_sound hq rfl hC) ⟨rfl, rfl, rfl⟩) hs hr hN hd hw hε id (fun _ _ _ h => h)
          (by rintro _ _ _ ⟨rfl, rfl, rfl⟩; exact erun_sound os _ _ _ h) (fun _ _ _ h => h.elim)
    · cases hq : opW P z H n T op with
      | none => rw [hq] at h; exact h.elim
      | some p =>
        obtain ⟨C, r, H', n'⟩ := p
        rw [hq] at h
        obtain ⟨hC, h⟩ := h
        exact lrun_step (k := fun r2 H2 n2 => r2 = r ∧ H2 = H' ∧ n2 = n') (kp := fun _ _ _ => False) hdst (opW_sound hq hC ⟨rfl, rfl, rfl⟩) hs hr hN hd hw hε id (fun _ _ _ h => h)
          (by rintro _ _ _ ⟨rfl, rfl, rfl⟩; exact erun_sound os _ _ _ h) (fun _ _ _ h => h.elim)
    · rename_i fo args hcl
      unfold opClass at hcl
      split at hcl
      all_goals first
        | (simp at hcl; done)
        | (split at hcl <;> simp at hcl; done)
        | (simp only [OpClass.c.injEq] at hcl
           obtain ⟨rfl, rfl⟩ := hcl
           exact lrun_step hdst (OpT.call h) hs hr hN hd hw hε id (fun _ _ _ h => h) (fun r H' n' hk => erun_sound os _ _ _ hk) (fun _ _ _ h => h))
  | ⟨dst, op, ty, pos, after, some (j, b)⟩ :: os, T, H, n, h => fun c w a hs hr hN hd => by
    unfold erun at h
    obtain ⟨hdst, h⟩ := h
    cases ht : gtmp ops j with
    | none => rw [ht] at h; exact h.elim
    | some t =>
      rw [ht] at h
      simp only [Option.bind_some] at h
      cases hgv : gval (T t) b with
      | none => rw [hgv] at h; exact h.elim
      | some g =>
        rw [hgv] at h
        have hwg : Region.wanted ⟨dst, op, ty, pos, after, some (j, b)⟩ (yielded ops a.tmps) = g := gval_spec hr rfl ht hgv
        simp only [contB] at h
        have hε : ∀ x ∈ op.operands, Rel c (evO T x) false [a.eval x] := fun x _ => evO_rel hr x
        split at h
        · cases hq : opQ P z H g T op with
          | none =>
            rw [hq] at h
            obtain ⟨hg, h⟩ := h
            rw [hg] at hwg h
            exact lrun_skip hdst hs hr hN hd hwg _ (erun_sound os _ _ _ h)
          | some p =>
            obtain ⟨C, r⟩ := p
            rw [hq] at h
            obtain ⟨hC, h⟩ := h
            cases g with
            | true =>
              exact lrun_step (k := fun r' H' n' => r' = r ∧ H' = H ∧ n' = n) (kp := fun _ _ _ => False) hdst (OpT.of_qt (opQ_sound hq rfl (hC rfl)) ⟨rfl, rfl, rfl⟩) hs hr hN hd hwg hε (.opt true) (fun _ _ _ h => opt_rel rfl h)
                (by rintro _ _ _ ⟨rfl, rfl, rfl⟩; exact erun_sound os _ _ _ h) (fun _ _ _ h => h.elim)
            | false => exact lrun_skip hdst hs hr hN hd hwg _ (erun_sound os _ _ _ h)
        · cases g with
          | true =>
            have h := h.1 rfl
            cases hq : opW P z H n T op with
            | none => rw [hq] at h; exact h.elim
            | some p =>
              obtain ⟨C, r, H', n'⟩ := p
              rw [hq] at h
              obtain ⟨hC, h⟩ := h
              exact lrun_step (k := fun r2 H2 n2 => r2 = r ∧ H2 = H' ∧ n2 = n') (kp := fun _ _ _ => False) hdst (opW_sound hq hC ⟨rfl, rfl, rfl⟩) hs hr hN hd hwg hε id (fun _ _ _ h => h)
                (by rintro _ _ _ ⟨rfl, rfl, rfl⟩; exact erun_sound os _ _ _ h) (fun _ _ _ h => h.elim)
          | false => exact lrun_skip hdst hs hr hN hd hwg _ (erun_sound os _ _ _ (h.2 rfl))
        · rename_i fo args hcl
          unfold opClass at hcl
          split at hcl
          all_goals first
            | (simp at hcl; done)
            | (split at hcl <;> simp at hcl; done)
            | (simp only [OpClass.c.injEq] at hcl
               obtain ⟨rfl, rfl⟩ := hcl
               cases g with
               | true =>
                 exact lrun_step hdst (OpT.call (ε := fun x => strip true (evO T x)) (h.1 rfl)) hs hr hN hd hwg (fun x hx => strip_rel rfl (hε x hx)) (.opt true) (fun _ _ _ h => opt_rel rfl h) (fun r H' n' hk => erun_sound os _ _ _ hk) (fun _ _ _ h => h)
               | false =>
                 obtain ⟨r, h⟩ := h.2 rfl
                 exact lrun_skip hdst hs hr hN hd hwg _ (erun_sound os _ _ _ h))
theorem awp_region {id : Nat} (z : TypeId → AV) (h : erun P z N ops ops.toList T H n Q) : awp P N (.region id ops false) T H n Q := fun c w a hs hr hN hd =>
  wp_region_list (erun_sound _ _ _ _ h c w a hs hr hN hd)
end
def resT (r : AV) : Option (Prop × List AV) → Option (Prop × List AV)
  | some (C, l) => some (C, r :: l)
  | none => none
def resL : Option (Prop × AV) → Option (Prop × List AV) → Option (Prop × List AV)
  | some (C1, r), some (C, l) => some (C1 ∧ C, r :: l)
  | _, _ => none
def resC (P : Program) (H : Heap) (T : Nat → AV) : List ResultVar → Option (Prop × List AV)
  | [] => some (True, [])
  | .tmp t :: rs => resT (T t) (resC P H T rs)
  | .cell a t :: rs => resL (qLoad P H t (T a)) (resC P H T rs)
def resV : List AV → AV
  | [r] => r
  | rs => .tup rs
def results1 (tmps : Array Value) : ResultVar → Sem Value
  | .tmp t => pure (tmps.getD t undef)
  | .cell a t => do loadVar t (← asAddr (tmps.getD a undef))
theorem resC_sound {P : Program} {H : Heap} {T : Nat → AV} {c : Ctx} {n : Nat} {w : World} {tmps : Array Value} (hs : Sim c H n w) (hr : RelTmps c T tmps) :
    ∀ (rs : List ResultVar) (C : Prop) (l : List AV), resC P H T rs = some (C, l) → C → ∃ vs, (rs.mapM (results1 tmps)).run P w = .ok vs w ∧ RelT c l vs
  | [], C, l, h, _ => by
    simp only [resC, Option.some.injEq, Prod.mk.injEq] at h
    obtain ⟨_, rfl⟩ := h
    exact ⟨[], by simp, by simp [RelT]⟩
  | .tmp t :: rs, C, l, h, hC => by
    simp only [resC] at h
    unfold resT at h
    split at h
    · rename_i C' l' hh
      simp only [Option.some.injEq, Prod.mk.injEq] at h
      obtain ⟨rfl, rfl⟩ := h
      obtain ⟨vs, hv, hrel⟩ := resC_sound hs hr rs _ _ hh hC
      refine ⟨tmps.getD t undef :: vs, ?_, ?_⟩
      · simp only [List.mapM_cons, Sem.run_bind, results1, Sem.run_pure, Result.andThen_ok, hv]
      · simp only [RelT]; exact ⟨_, _, rfl, hr t, hrel⟩
    · simp at h
  | .cell a t :: rs, C, l, h, hC => by
    simp only [resC] at h
    unfold resL at h
    split at h
    · rename_i C1 r C' l' hq hh
      simp only [Option.some.injEq, Prod.mk.injEq] at h
      obtain ⟨rfl, rfl⟩ := h
      obtain ⟨vs, hv, hrel⟩ := resC_sound hs hr rs _ _ hh hC.2
      have hl := qs_load (P := P) (ε := fun _ => T a) (H := H) (t := t) (x := .tmp 0) hq hC.1
      obtain ⟨v, c', w', hrun, hst, hrv⟩ := hl none 0 "" #[] none c n w (fun _ => tmps.getD a undef) hs (fun x _ => hr a)
      have hx := hr a
      have key : ∃ ad, tmps.getD a undef = .pointer (some ad) := by
        cases hT : T a <;> rw [hT] at hq hx <;> simp only [qLoad] at hq <;> try (simp at hq; done)
        · simp only [Rel, List.cons.injEq, and_true] at hx
          obtain ⟨b, off, _, _, e, _⟩ := hx
          exact ⟨_, e⟩
        · simp only [Rel, List.cons.injEq, and_true] at hx
          obtain ⟨b, _, _, _, e⟩ := hx
          exact ⟨_, e⟩
      obtain ⟨ad, had⟩ := key
      have hrun2 : (loadVar t ad).run P w = .ok v w ∧ Rel c r false [v] := by
        have hp : QS P (.load t (.tmp 0)) (fun _ => T a) H r := hl
        have hx2 := hr a
        cases hT : T a <;> rw [hT] at hq hx2 <;> simp only [qLoad] at hq <;> try (simp at hq; done)
        · rename_i d
          simp only [Option.some.injEq, Prod.mk.injEq] at hq
          obtain ⟨h1, rfl⟩ := hq
          have hC1 := hC.1
          rw [← h1] at hC1
          simp only [Rel, List.cons.injEq, and_true] at hx2
          obtain ⟨b, off, arr, ds, ev, hb, hd, ha⟩ := hx2
          obtain ⟨ty', fr, hw⟩ := hs.ro b arr hb
          obtain ⟨v2, hv2, hrel2⟩ := run_loadVar_at (P := P) hd hw ha hC1.1 hC1.2
          rw [had] at ev
          cases ev
          have e2 : (execOp (fun _ => tmps.getD a undef) ⟨none, .load t (.tmp 0), 0, "", #[], none⟩).run P w = .ok (.value v2) w := by simp [execOp, had, Instr.loadAt, Instr.sureAddr, hv2]
          rw [e2] at hrun
          cases hrun
          exact ⟨hv2, hrel2⟩
        · rename_i k ver off i p
          unfold qLoadO at hq
          split at hq
          · rename_i ver' esz els hk
            simp only [Option.some.injEq, Prod.mk.injEq, nth] at hq
            obtain ⟨h1, rfl⟩ := hq
            have hC1 := hC.1
            rw [← h1] at hC1
            obtain ⟨e1, e2, e3, e4, e5, e6⟩ := hC1
            subst e1
            simp only [Rel, List.cons.injEq, and_true] at hx2
            obtain ⟨b, cap, esz', hl', ev⟩ := hx2
            obtain ⟨he, hc, arr, ty', ds, x, hb, hsz, hr', ha, hx3, hax, _⟩ := (hs.own k _ hk).elem hl' e2
            obtain ⟨a1, y, b1, ey, hly, hy⟩ := Rel.path p _ _ hx3 e4
            subst ey
            obtain ⟨_, ha2⟩ := At.append.1 hax
            obtain ⟨ha3, _⟩ := At.append.1 ha2
            rw [hly, ← e3] at ha3
            obtain ⟨v2, hv2, hrel2⟩ := run_loadVar_at (P := P) hy hb ha3 e5 e6
            rw [had] at ev
            cases ev
            have e2 : (execOp (fun _ => tmps.getD a undef) ⟨none, .load t (.tmp 0), 0, "", #[], none⟩).run P w = .ok (.value v2) w := by simp [execOp, had, Instr.loadAt, Instr.sureAddr, hv2]
            rw [e2] at hrun
            cases hrun
            exact ⟨hv2, hrel2⟩
          · simp at hq
      refine ⟨v :: vs, ?_, ?_⟩
      · simp only [List.mapM_cons, Sem.run_bind, results1, had, asAddr, Sem.run_pure, Result.andThen_ok, hrun2.1, hv]
      · simp only [RelT]; exact ⟨_, _, rfl, hrun2.2, hrel⟩
    · simp at h
theorem results_run {P : Program} {fn : Func} {H : Heap} {T : Nat → AV} {c : Ctx} {n : Nat} {w : World} {tmps : Array Value} (hs : Sim c H n w) (hr : RelTmps c T tmps) {C : Prop} {l : List AV}
    (h : resC P H T fn.results.toList = some (C, l)) (hC : C) : ∃ v, (results fn tmps).run P w = .ok v w ∧ Rel c (resV l) false [v] := by
  obtain ⟨vs, hv, hrel⟩ := resC_sound (P := P) hs hr _ _ _ h hC
  have e : fn.results.mapM (results1 tmps) = Functor.map List.toArray (fn.results.toList.mapM (results1 tmps)) := by
    rw [Array.mapM_eq_mapM_toList]
  have hm : (fn.results.mapM (results1 tmps)).run P w = .ok vs.toArray w := by rw [e]; simp [hv]
  have hres : (results fn tmps).run P w = .ok (if h : vs.toArray.size = 1 then vs.toArray[0] else .tuple vs.toArray) w := by
    have : results fn tmps = (do
        let vs ← fn.results.mapM (results1 tmps)
        pure (if h : vs.size = 1 then vs[0] else .tuple vs)) := by
      unfold results
      congr 1
    rw [this, Sem.run_bind, hm]
    rfl
  refine ⟨_, hres, ?_⟩
  match l, vs, hrel with
  | [], _, hrel => simp only [RelT] at hrel; subst hrel; simp [resV, Rel, RelT]
  | [r], _, hrel =>
    simp only [RelT] at hrel
    obtain ⟨v, r', rfl, h1, rfl⟩ := hrel
    simpa [resV] using h1
  | r1 :: r2 :: rs, _, hrel =>
    have hrel' := hrel
    simp only [RelT] at hrel
    obtain ⟨v, _, rfl, _, v2, r', rfl, _, _⟩ := hrel
    simp only [resV, Rel]
    exact ⟨_, by simp, hrel'⟩
def contL (x : Option (Prop × List AV)) (k : List AV → Prop) : Prop :=
  match x with
  | some (C, r) => C ∧ k r
  | none => False
theorem contL_some (C : Prop) (r : List AV) (k : List AV → Prop) : contL (some (C, r)) k = (C ∧ k r) := rfl
@[congr] theorem contL_congr {x y : Option (Prop × List AV)} {k : List AV → Prop} (h : x = y) : contL x k = contL y k := by rw [h]
def Fin (P : Program) (rs : List ResultVar) (K : ARes → Heap → Nat → Prop) : AEx → (Nat → AV) → Heap → Nat → Prop
  | .normal, T, H, n => contL (resC P H T rs) fun l => K (.val (resV l)) H n
  | .ret, T, H, n => contL (resC P H T rs) fun l => K (.val (resV l)) H n
  | .pan p, _, H, n => K (.pan p) H n
  | .exit _, _, _, _ => False
def gtmpL : List Oper → Nat → Option Tmp
  | [], _ => none
  | o :: _, 0 => o.dst
  | _ :: l, j + 1 => gtmpL l j
theorem gtmpL_eq (l : List Oper) (j : Nat) : gtmpL l j = (l[j]?).bind (·.dst) := by
  induction l generalizing j with
  | nil => simp [gtmpL]
  | cons o l ih => cases j <;> simp [gtmpL, ih]
def tl : List (Nat × AV) → Nat → AV
  | [], _ => .junk
  | (k, v) :: l, t => if t = k then v else tl l t
theorem tput_tl (l : List (Nat × AV)) (d : Nat) (r : AV) : tput (tl l) (some d) r = tl ((d, r) :: l) := by
  funext t; simp [tput, tl]
theorem tput_none (T : Nat → AV) (r : AV) : tput T none r = T := rfl
def tsel (live : List Nat) (T : Nat → AV) : Nat → AV := tl (live.map fun t => (t, T t))
theorem tsel_eq (live : List Nat) (T : Nat → AV) : tsel live T = tl (live.map fun t => (t, T t)) := rfl
theorem tsel_rel {c : Ctx} {T : Nat → AV} {tmps : Array Value} (live : List Nat) (h : RelTmps c T tmps) : RelTmps c (tsel live T) tmps := fun t => by
  unfold tsel
  induction live with
  | nil => simp [tl, Rel]
  | cons x l ih =>
    simp only [List.map_cons, tl]
    split
    · rename_i e; subst e; exact h t
    · exact ih
def argT (args : List AV) : Nat → AV := fun t => args.getD t .junk
def argL : Nat → List AV → List (Nat × AV)
  | _, [] => []
  | k, a :: l => (k, a) :: argL (k + 1) l
theorem argT_rel (args : List AV) : tl (argL 0 args) = argT args := by
  have : ∀ k t, tl (argL k args) t = if t < k then .junk else args.getD (t - k) .junk := by
    induction args with
    | nil => intro k t; simp [argL, tl]
    | cons a l ih =>
      intro k t
      simp only [argL, tl, ih]
      split
      · rename_i e; subst e; simp
      · rename_i e
        by_cases h : t < k
        · rw [if_pos h, if_pos (by omega)]
        · rw [if_neg h, if_neg (by omega), show t - k = (t - (k + 1)) + 1 by omega]
          simp
  funext t
  simpa [argT] using this 0 t
section
variable {P : Program} {z : TypeId → AV} {N : Nat} {ops : Array Oper} {T : Nat → AV} {H : Heap} {n : Nat} {Q : AEx → (Nat → AV) → Heap → Nat → Prop}
theorem awp_sel (live : List Nat) {code : Code} (h : awp P N code (tsel live T) H n Q) : awp P N code T H n Q := fun c w a hs hr hN hd => h c w a hs (tsel_rel live hr) hN hd
theorem awp_reg {id : Nat} {l : List Oper} {y : Code} (z : TypeId → AV) (live : List Nat)
    (h : ∀ K : (Nat → AV) → Heap → Nat → Prop, (∀ T H n, awp P N y T H n Q → K T H n) → erun P z N l.toArray l T H n (AThen (fun T' H' n' => K (tsel live T') H' n') Q)) :
    awp P N (.seq (.region id l.toArray false) y) T H n Q :=
  awp_seq (awp_region z (by simpa using h (fun T' H' n' => awp P N y T' H' n' Q) (fun _ _ _ h => h)) |>.mono fun e T' H' n' hq => by
    cases e <;> first | exact awp_sel live hq | exact hq)
end
theorem acalls_of_awp {P : Program} {f : FuncId} {fn : Func} {code : Code} {args : List AV} {H : Heap} {n N : Nat} {rs : List ResultVar} {K : ARes → Heap → Nat → Prop}
    (hf : P.funcs[f]? = some fn) (hb : fn.body = some code) (hN : fn.ntmps = N) (hrs : fn.results.toList = rs) (hlen : args.length ≤ N) (h : awp P N code (tl (argL 0 args)) H n (Fin P rs K)) : ACalls P f args H n K := fun c w vs hs hr => by
  rw [argT_rel] at h
  subst hN
  subst hrs
  have hl : vs.length = args.length := by
    clear h hlen
    induction args generalizing vs with
    | nil => simp only [RelT] at hr; subst hr; rfl
    | cons x xs ih =>
      simp only [RelT] at hr
      obtain ⟨v, r, rfl, _, h2⟩ := hr
      simp [ih r h2]
  refine calls_of_wp hf hb (Go.wp_mono (h c w ⟨vs.toArray ++ Array.replicate (fn.ntmps - vs.toArray.size) undef, []⟩ hs ?_ (by simp; omega) rfl) ?_)
  · intro t
    rcases Nat.lt_or_ge t args.length with ht | ht
    · obtain ⟨v, hv, hrel⟩ := RelT.nth hr (List.getElem?_eq_getElem ht)
      have e : (vs.toArray ++ Array.replicate (fn.ntmps - vs.toArray.size) undef).getD t undef = v := by
        rw [Array.getD_eq_getD_getElem?, Array.getElem?_append_left (by simpa [hl] using ht)]
        simp [hv]
      rw [e]
      simpa [argT, List.getD, List.getElem?_eq_getElem ht] using hrel
    · have : argT args t = .junk := by simp [argT, List.getD, List.getElem?_eq_none ht]
      rw [this]
      simp [Rel]
  · rintro e a' w' ⟨ae, c', T', H', n', hQ, hm, hst, hr', _, hd⟩
    have fin : ∀ (x : Option (Prop × List AV)), x = resC P H' T' fn.results.toList → contL x (fun l => K (.val (resV l)) H' n') →
        ∃ v, (results fn a'.tmps).run P w' = .ok v w' ∧ ∃ res c' H' n', K res H' n' ∧ Step c H w c' H' n' w' ∧
          match Ending.returned v, res with
          | .returned v, .val r => Rel c' r false [v]
          | .panicked ch, .pan p => ∃ v, ch = [{ v, recovered := false }] ∧ Rel c' p false [v]
          | _, _ => False := fun x hx hc => by
      cases x with
      | none => exact hc.elim
      | some p =>
        obtain ⟨C, l⟩ := p
        obtain ⟨hC, hK⟩ := hc
        obtain ⟨v, hv, hrel⟩ := results_run hst.sim hr' hx.symm hC
        exact ⟨v, hv, .val _, c', H', n', hK, hst, hrel⟩
    cases ae with
    | normal =>
      cases e <;> simp only [exMatch] at hm
      exact ⟨hd, fin _ rfl hQ⟩
    | ret =>
      cases e <;> simp only [exMatch] at hm
      exact ⟨hd, fin _ rfl hQ⟩
    | exit i => exact hQ.elim
    | pan p =>
      cases e <;> simp only [exMatch] at hm
      exact ⟨hd, .pan p, c', H', n', hQ, hst, hm⟩
theorem erun_q {P : Program} {z : TypeId → AV} {N : Nat} {ops : Array Oper} {T : Nat → AV} {H : Heap} {n : Nat} {Q : AEx → (Nat → AV) → Heap → Nat → Prop} {dst : Option Tmp} {op : Op} {ty : TypeId} {pos : String} {after : Array Edge} {os : List Oper} (h : opClass op = .q) :
    erun P z N ops (⟨dst, op, ty, pos, after, none⟩ :: os) T H n Q = (dOK N dst ∧ cont (opQ P z H true T op) fun r => erun P z N ops os (tput T dst r) H n Q) := by rw [erun.eq_2, h]
theorem erun_w {P : Program} {z : TypeId → AV} {N : Nat} {ops : Array Oper} {T : Nat → AV} {H : Heap} {n : Nat} {Q : AEx → (Nat → AV) → Heap → Nat → Prop} {dst : Option Tmp} {op : Op} {ty : TypeId} {pos : String} {after : Array Edge} {os : List Oper} (h : opClass op = .w) :
    erun P z N ops (⟨dst, op, ty, pos, after, none⟩ :: os) T H n Q = (dOK N dst ∧ contW (opW P z H n T op) fun r H' n' => erun P z N ops os (tput T dst r) H' n' Q) := by rw [erun.eq_2, h]
theorem erun_c {P : Program} {z : TypeId → AV} {N : Nat} {ops : Array Oper} {T : Nat → AV} {H : Heap} {n : Nat} {Q : AEx → (Nat → AV) → Heap → Nat → Prop} {dst : Option Tmp} {fo : Operand} {args : List Operand} {ts : Array TypeId} {ty : TypeId} {pos : String} {after : Array Edge} {os : List Oper} :
    erun P z N ops (⟨dst, .call ⟨.value fo, args.toArray, ts⟩, ty, pos, after, none⟩ :: os) T H n Q = (dOK N dst ∧ callK P (evO T fo) (args.map (evO T)) H n (fun r H' n' => erun P z N ops os (tput T dst r) H' n' Q) (fun p H' n' => Q (.pan p) T H' n')) := by rw [erun.eq_2]; rfl
theorem erun_gq {P : Program} {z : TypeId → AV} {N : Nat} {ops : Array Oper} {T : Nat → AV} {H : Heap} {n : Nat} {Q : AEx → (Nat → AV) → Heap → Nat → Prop} {dst : Option Tmp} {op : Op} {ty : TypeId} {pos : String} {after : Array Edge} {os : List Oper} {j : Nat} {b : Bool} (h : opClass op = .q) :
    erun P z N ops (⟨dst, op, ty, pos, after, some (j, b)⟩ :: os) T H n Q = (dOK N dst ∧ contB ((gtmp ops j).bind fun t => gval (T t) b) fun g => contG g (opQ P z H g T op) fun r => erun P z N ops os (tput T dst r) H n Q) := by rw [erun.eq_3, h]
theorem erun_gc {P : Program} {z : TypeId → AV} {N : Nat} {ops : Array Oper} {T : Nat → AV} {H : Heap} {n : Nat} {Q : AEx → (Nat → AV) → Heap → Nat → Prop} {dst : Option Tmp} {fo : Operand} {args : List Operand} {ts : Array TypeId} {ty : TypeId} {pos : String} {after : Array Edge} {os : List Oper} {j : Nat} {b : Bool} :
    erun P z N ops (⟨dst, .call ⟨.value fo, args.toArray, ts⟩, ty, pos, after, some (j, b)⟩ :: os) T H n Q = (dOK N dst ∧ contB ((gtmp ops j).bind fun t => gval (T t) b) fun g =>
      callG P g (strip g (evO T fo)) (args.map fun x => strip g (evO T x)) H n (fun r H' n' => erun P z N ops os (tput T dst r) H' n' Q) (fun p H' n' => Q (.pan p) T H' n')) := by rw [erun.eq_3]; rfl
theorem opQ_len {P : Program} {z : TypeId → AV} {H : Heap} {g : Bool} {T : Nat → AV} {b : Builtin} {args : List Operand} {ts : List TypeId} : opQ P z H g T (.call ⟨.builtin b, args.toArray, ts.toArray⟩) = qCall P b ts (args.map fun x => strip g (evO T x)) := by simp [opQ]
theorem gtmp_eq (l : List Oper) (j : Nat) : gtmp l.toArray j = gtmpL l j := by
  rw [gtmpL_eq]; unfold gtmp; simp
theorem callK_fn (P : Program) (f : FuncId) (first captured : List AV) (args : List AV) (H : Heap) (n : Nat) (k kp : AV → Heap → Nat → Prop) :
    callK P (.fn (.func f) first captured) args H n k kp = (((∃ fn : Func, P.funcs[f]? = some fn ∧ fn.body.isSome ∧ (fn.name == "runtime.NumGoroutine") = false) ∧ ACalls P f (first ++ args ++ captured) H n fun res H' n' => match res with
      | .val r => k r H' n'
      | .pan p => kp p H' n') ∨ ExtC P f (first ++ args ++ captured) H n k) := rfl
theorem callK_use {P : Program} {f : FuncId} {fn : Func} {first captured args args' : List AV} {H : Heap} {n : Nat} {k kp : AV → Heap → Nat → Prop} {r : AV} {H' : Heap} {n' : Nat}
    (hf : P.funcs[f]? = some fn) (hb : fn.body.isSome = true) (hn : (fn.name == "runtime.NumGoroutine") = false) (ha : first ++ args ++ captured = args') (h : Ret P f args' H n r H' n') (hk : k r H' n') : callK P (.fn (.func f) first captured) args H n k kp := by
  rw [callK_fn]
  exact .inl ⟨⟨fn, hf, hb, hn⟩, by rw [ha]; exact h.use hk⟩
theorem callG_use {P : Program} {g : Bool} {f : FuncId} {fn : Func} {first captured args args' : List AV} {H : Heap} {n : Nat} {k kp : AV → Heap → Nat → Prop} {r : AV}
    (hf : P.funcs[f]? = some fn) (hb : fn.body.isSome = true) (hn : (fn.name == "runtime.NumGoroutine") = false) (ha : first ++ args ++ captured = args') (h : g = true → Ret P f args' H n r H n) (hk : k (.opt g r) H n) : callG P g (.fn (.func f) first captured) args H n k kp := by
  refine ⟨fun hg => ?_, fun hg => ⟨r, hg ▸ hk⟩⟩
  subst hg
  exact callK_use hf hb hn ha (h rfl) hk
end Go.Sx
namespace Go.Sx
open Go
inductive DK where
  | m
  | q
  | c
  | w (inc : List Nat)
section
variable (P : Program) (z : TypeId → AV) (N : Nat) (ops : Array Oper)
def gvO (T : Nat → AV) (o : Oper) : Option Bool :=
  match o.guard with
  | none => some true
  | some (j, b) => (gtmp ops j).bind fun t => gval (T t) b
def putG (o : Oper) (g : Bool) (r : AV) : AV :=
  match o.guard with
  | none => r
  | some _ => .opt g r
def CallQ (fv : AV) (args : List AV) (H : Heap) (r : AV) : Prop := ∀ n, callK P fv args H n (fun r' H' n' => r' = r ∧ H' = H ∧ n' = n) (fun _ _ _ => False)
def sameOne (q : Nat) (T : Nat → AV) (H H' : Heap) : Prop :=
  match ops[q]? with
  | none => True
  | some o =>
    match o.op, o.guard with
    | .call ⟨.value fo, args, _⟩, none => ∀ d, o.dst = some d → CallQ P (strip true (evO T fo)) (args.toList.map fun x => strip true (evO T x)) H' (T d)
    | .call ⟨.value _, _, _⟩, some _ => False
    | op, _ => ∀ g, gvO ops T o = some g → opQ P z H' g T op = opQ P z H g T op
def dstep (i : Nat) (k : DK) (I : List Nat) (T : Nat → AV) (H : Heap) (n : Nat) (K : (Nat → AV) → Heap → Nat → Prop) (Q : AEx → (Nat → AV) → Heap → Nat → Prop) : Prop :=
  match ops[i]? with
  | none => False
  | some o => dOK N o.dst ∧ match k with
    | .m => contB (gvO ops T o) fun g => match o.op with
      | .move x => K (tput T o.dst (putG o g (strip g (evO T x)))) H n
      | _ => False
    | .q => contB (gvO ops T o) fun g => match opQ P z H g T o.op with
      | some (C, r) => (g = true → C) ∧ K (tput T o.dst (putG o g r)) H n
      | none => g = false ∧ K (tput T o.dst (putG o g .junk)) H n
    | .c => match o.op with
      | .call ⟨.value fo, args, _⟩ => contB (gvO ops T o) fun g => ∃ r, (g = true → CallQ P (strip g (evO T fo)) (args.toList.map fun x => strip g (evO T x)) H r) ∧ K (tput T o.dst (putG o g r)) H n
      | _ => False
    | .w _ => o.guard = none ∧ match o.op with
      | .call ⟨.value fo, args, _⟩ => callK P (evO T fo) (args.toList.map (evO T)) H n (fun r H' n' => (∀ q ∈ I, sameOne P z ops q T H H') ∧ K (tput T o.dst r) H' n') (fun p H' n' => Q (.pan p) T H' n')
      | op => contW (opW P z H n T op) fun r H' n' => (∀ q ∈ I, sameOne P z ops q T H H') ∧ K (tput T o.dst r) H' n'
def DK.inc : DK → List Nat
  | .w I => I
  | _ => []
def drun : List (Nat × DK × List Nat) → (Nat → AV) → Heap → Nat → (AEx → (Nat → AV) → Heap → Nat → Prop) → Prop
  | [], T, H, n, Q => Q .normal T H n
  | (i, k, I) :: l, T, H, n, Q => dstep P z N ops i k I T H n (fun T H n => drun l T H n Q) Q
variable {P z N ops}
theorem callK_mono2 {fv : AV} {args : List AV} {H : Heap} {n : Nat} {k k' kp kp' : AV → Heap → Nat → Prop} (hk : ∀ r H n, k r H n → k' r H n) (hp : ∀ r H n, kp r H n → kp' r H n) (h : callK P fv args H n k kp) : callK P fv args H n k' kp' := by
  cases fv <;> simp only [callK] at h
  rename_i f first captured
  cases f <;> simp only at h
  rcases h with h | h
  · exact .inl ⟨h.1, h.2.mono fun r H n hr => by cases r <;> first | exact hk _ _ _ hr | exact hp _ _ _ hr⟩
  · exact .inr fun c w vs hs hr => let ⟨r, v, c', H', n', w', h1, h2, h3, h4⟩ := h c w vs hs hr; ⟨r, v, c', H', n', w', h1, h2, h3, hk _ _ _ h4⟩
theorem callK_mono {fv : AV} {args : List AV} {H : Heap} {n : Nat} {k k' kp : AV → Heap → Nat → Prop} (hk : ∀ r H n, k r H n → k' r H n) (h : callK P fv args H n k kp) : callK P fv args H n k' kp := callK_mono2 hk (fun _ _ _ h => h) h
theorem dstep_mono2 {i : Nat} {k : DK} {I : List Nat} {T : Nat → AV} {H : Heap} {n : Nat} {K K' : (Nat → AV) → Heap → Nat → Prop} {Q Q' : AEx → (Nat → AV) → Heap → Nat → Prop}
    (hk : ∀ T H n, K T H n → K' T H n) (hq : ∀ p T H n, Q (.pan p) T H n → Q' (.pan p) T H n) (h : dstep P z N ops i k I T H n K Q) : dstep P z N ops i k I T H n K' Q' := by
  unfold dstep at h ⊢
  split
  · rename_i e; rw [e] at h; exact h
  · rename_i o e
    rw [e] at h
    obtain ⟨hd, h⟩ := h
    refine ⟨hd, ?_⟩
    cases k with
    | m =>
      simp only at h ⊢
      cases hg : gvO ops T o with
      | none => rw [hg] at h; exact h.elim
      | some g =>
        rw [hg] at h
        simp only [contB] at h ⊢
        split
        · rename_i x ex; rw [ex] at h; exact hk _ _ _ h
        · rename_i hne; split at h
          · rename_i x ex; exact (hne x ex).elim
          · exact h.elim
    | q =>
      simp only at h ⊢
      cases hg : gvO ops T o with
      | none => rw [hg] at h; exact h.elim
      | some g =>
        rw [hg] at h
        simp only [contB] at h ⊢
        cases hq : opQ P z H g T o.op with
        | none => rw [hq] at h; exact ⟨h.1, hk _ _ _ h.2⟩
        | some p => rw [hq] at h; exact ⟨h.1, hk _ _ _ h.2⟩
    | c =>
      simp only at h ⊢
      split
      · rename_i fo args ts ex
        rw [ex] at h
        cases hg : gvO ops T o with
        | none => rw [hg] at h; exact h.elim
        | some g =>
          rw [hg] at h
          obtain ⟨r, h1, h2⟩ := h
          exact ⟨r, h1, hk _ _ _ h2⟩
      · rename_i hne; split at h
        · rename_i fo args ts ex; exact (hne _ _ _ ex).elim
        · exact h.elim
    | w inc =>
      simp only at h ⊢
      refine ⟨h.1, ?_⟩
      have h := h.2
      split
      · rename_i fo args ts ex
        rw [ex] at h
        exact callK_mono2 (fun r H n hr => ⟨hr.1, hk _ _ _ hr.2⟩) (fun p H n hp => hq _ _ _ _ hp) h
      · rename_i hne
        split at h
        · rename_i fo args ts ex; exact (hne _ _ _ ex).elim
        · cases hw : opW P z H n T o.op with
          | none => rw [hw] at h; exact h.elim
          | some p => rw [hw] at h; exact ⟨h.1, h.2.1, hk _ _ _ h.2.2⟩
theorem dstep_mono {i : Nat} {k : DK} {I : List Nat} {T : Nat → AV} {H : Heap} {n : Nat} {K K' : (Nat → AV) → Heap → Nat → Prop} {Q : AEx → (Nat → AV) → Heap → Nat → Prop}
    (hk : ∀ T H n, K T H n → K' T H n) (h : dstep P z N ops i k I T H n K Q) : dstep P z N ops i k I T H n K' Q := dstep_mono2 hk (fun _ _ _ _ h => h) h
theorem drun_mono_tail {Q : AEx → (Nat → AV) → Heap → Nat → Prop} {b b' : List (Nat × DK × List Nat)} (hb : ∀ T H n, drun P z N ops b T H n Q → drun P z N ops b' T H n Q) :
    ∀ (a : List (Nat × DK × List Nat)) (T : Nat → AV) (H : Heap) (n : Nat), drun P z N ops (a ++ b) T H n Q → drun P z N ops (a ++ b') T H n Q
  | [], T, H, n, h => hb T H n h
  | (i, k, I) :: a, T, H, n, h => dstep_mono (fun T H n h => drun_mono_tail hb a T H n h) h
theorem evO_tput {T : Nat → AV} {dst : Option Tmp} {r : AV} {x : Operand} (h : ∀ d, dst = some d → x ≠ .tmp d) : evO (tput T dst r) x = evO T x := by
  cases dst with
  | none => rfl
  | some d =>
    cases x with
    | tmp t =>
      have : t ≠ d := fun e => h d rfl (by rw [e])
      simp [evO, tput, this]
    | _ => rfl
def opTmps (op : Op) : List Tmp := op.operands.toList.filterMap fun | .tmp t => some t | _ => none
theorem mem_opTmps {op : Op} {t : Tmp} (h : Operand.tmp t ∈ op.operands) : t ∈ opTmps op :=
  List.mem_filterMap.2 ⟨.tmp t, by simpa using h, rfl⟩
theorem evO_op {T : Nat → AV} {dst : Option Tmp} {r : AV} {op : Op} (h : ∀ d, dst = some d → d ∉ opTmps op) {x : Operand} (hx : x ∈ op.operands) : evO (tput T dst r) x = evO T x :=
  evO_tput fun d hd e => h d hd (mem_opTmps (e ▸ hx))
theorem opQ_tput {H : Heap} {g : Bool} {T : Nat → AV} {dst : Option Tmp} {r : AV} {op : Op} (h : ∀ d, dst = some d → d ∉ opTmps op) : opQ P z H g (tput T dst r) op = opQ P z H g T op := by
  have e : ∀ x ∈ op.operands, evO (tput T dst r) x = evO T x := fun x hx => evO_op h hx
  unfold opQ
  split <;> simp only [Op.operands, Call.operands] at e
  all_goals first
    | rfl
    | (rw [e _ (by simp)]; done)
    | (rw [e _ (by simp), e _ (by simp)]; done)
    | (rw [e _ (by simp), e _ (by simp), e _ (by simp)]; done)
    | (congr 1; apply List.map_congr_left; intro x hx; rw [e x (by simpa using hx)]; done)
    | (rename_i t x lo hi mx
       have e1 : ∀ (y : Option Operand), (∀ o, y = some o → o ∈ (Op.slice t x lo hi mx).operands) → (y.map fun o => strip g (evO (tput T dst r) o)) = y.map fun o => strip g (evO T o) := fun y hy => by
         cases y with
         | none => rfl
         | some o => simp only [Option.map_some]; rw [evO_op h (hy o rfl)]
       rw [e1 lo (fun o ho => by simp [Op.operands, ho]), e1 hi (fun o ho => by simp [Op.operands, ho]), e1 mx (fun o ho => by simp [Op.operands, ho]), e x (by simp)]; done)
    | (rename_i t ps
       have e1 : (ps.toList.map fun p => (p.1, strip g (evO (tput T dst r) p.2))) = ps.toList.map fun p => (p.1, strip g (evO T p.2)) := List.map_congr_left fun p hp => by
         rw [e p.2 (by simp; exact ⟨p.1, by simpa using hp⟩)]
       rw [e1]; done)
    | (rename_i t len ps
       have e1 : (ps.toList.map fun p => strip g (evO (tput T dst r) p.2)) = ps.toList.map fun p => strip g (evO T p.2) := List.map_congr_left fun p hp => by
         rw [e p.2 (by simp; exact ⟨p.1, by simpa using hp⟩)]
       rw [e1]; done)
    | (rename_i fn a b
       have e1 : (a.toList.map fun x => strip g (evO (tput T dst r) x)) = a.toList.map fun x => strip g (evO T x) := List.map_congr_left fun x hx => by
         rw [e x (by simp at hx; simp [hx])]
       have e2 : (b.toList.map fun x => strip g (evO (tput T dst r) x)) = b.toList.map fun x => strip g (evO T x) := List.map_congr_left fun x hx => by
         rw [e x (by simp at hx; simp [hx])]
       rw [e1, e2]; done)
    | (rename_i x y z; rw [e x (by simp), e y (by simp), e z (by simp)])
    | (rename_i t x i; rw [e x (by simp), e i (by simp)])
    | (rename_i o t x y _; rw [e x (by simp), e y (by simp)])
theorem opW_tput {H : Heap} {n : Nat} {T : Nat → AV} {dst : Option Tmp} {r : AV} {op : Op} (h : ∀ d, dst = some d → d ∉ opTmps op) : opW P z H n (tput T dst r) op = opW P z H n T op := by
  have e : ∀ x ∈ op.operands, evO (tput T dst r) x = evO T x := fun x hx => evO_op h hx
  unfold opW
  split <;> simp only [Op.operands] at e
  · rename_i t x v; rw [e x (by simp), e v (by simp)]
  · rename_i t x; rw [e x (by simp)]
  · rfl
  · rename_i args ts
    unfold wAppL
    split
    · rename_i x y t t' e1 e2
      have h1 : evO (tput T dst r) x = evO T x := e x (by simp [Call.operands]; rw [← Array.mem_toList_iff, e1]; simp)
      have h2 : evO (tput T dst r) y = evO T y := e y (by simp [Call.operands]; rw [← Array.mem_toList_iff, e1]; simp)
      rw [h1, h2]
    · rfl
  · rename_i t r0
    cases r0 with
    | none => rfl
    | some x => simp only [Option.map_some]; rw [e x (by simp)]
  · rename_i t m k v; rw [e k (by simp), e v (by simp), e m (by simp)]
  · rename_i t len ps
    unfold wBS
    rw [opQ_tput h]
    have e1 : (ps.toList.map fun p => evO (tput T dst r) p.2) = ps.toList.map fun p => evO T p.2 := List.map_congr_left fun p hp => by
      rw [e p.2 (by simp; exact ⟨p.1, by simpa using hp⟩)]
    rw [e1]
  · rename_i s d x
    unfold wCv
    rw [opQ_tput h, e x (by simp)]
  · rfl
def gTmps (o : Oper) : List Tmp :=
  match o.guard with
  | some (j, _) => (gtmp ops j).toList
  | none => []
def looks (o : Oper) : List Tmp := opTmps o.op ++ gTmps (ops := ops) o
theorem gvO_tput {T : Nat → AV} {dst : Option Tmp} {r : AV} {o : Oper} (h : ∀ d, dst = some d → d ∉ gTmps (ops := ops) o) : gvO ops (tput T dst r) o = gvO ops T o := by
  unfold gvO gTmps at *
  cases hg : o.guard with
  | none => rfl
  | some jb =>
    obtain ⟨j, b⟩ := jb
    rw [hg] at h
    simp only at h ⊢
    cases ht : gtmp ops j with
    | none => rfl
    | some t =>
      rw [ht] at h
      simp only [Option.bind_some]
      cases dst with
      | none => rfl
      | some d =>
        have hne : t ≠ d := fun e => h d rfl (by simp [e])
        simp [tput, hne]
theorem tput_comm (T : Nat → AV) {x y : Option Tmp} (r s : AV) (h : ∀ d, x = some d → y ≠ some d) : tput (tput T x r) y s = tput (tput T y s) x r := by
  cases x with
  | none => rfl
  | some d =>
    cases y with
    | none => rfl
    | some e =>
      have hne : d ≠ e := fun he => h d rfl (by rw [he])
      funext t
      simp only [tput]
      by_cases h1 : t = d
      · subst h1; simp [hne]
      · by_cases h2 : t = e <;> simp [h1, h2, Ne.symm hne]
def Apart (o o' : Oper) : Prop :=
  (∀ d, o.dst = some d → d ∉ looks (ops := ops) o') ∧ (∀ d, o'.dst = some d → d ∉ looks (ops := ops) o) ∧ (∀ d, o.dst = some d → o'.dst ≠ some d)
theorem sameOne_tput_iff {q : Nat} {T : Nat → AV} {dst : Option Tmp} {r : AV} {H H' : Heap} (h : ∀ o, ops[q]? = some o → ∀ d, dst = some d → d ∉ looks (ops := ops) o ∧ o.dst ≠ some d) :
    sameOne P z ops q (tput T dst r) H H' ↔ sameOne P z ops q T H H' := by
  unfold sameOne
  split
  · exact Iff.rfl
  · rename_i o ho
    have hl := h o ho
    have h1 : ∀ d, dst = some d → d ∉ opTmps o.op := fun d hd hm => (hl d hd).1 (List.mem_append_left _ hm)
    have h2 : ∀ d, dst = some d → d ∉ gTmps (ops := ops) o := fun d hd hm => (hl d hd).1 (List.mem_append_right _ hm)
    split
    · rename_i fo args ts hop hgd
      rw [hop] at h1
      have e : ∀ x ∈ (Op.call ⟨.value fo, args, ts⟩).operands, evO (tput T dst r) x = evO T x := fun x hx => evO_op h1 hx
      simp only [Op.operands, Call.operands] at e
      have e2 : (args.toList.map fun x => strip true (evO (tput T dst r) x)) = args.toList.map fun x => strip true (evO T x) := List.map_congr_left fun x hx => by rw [e x (by simp at hx; simp [hx])]
      rw [e fo (by simp), e2]
      refine forall_congr' fun d => forall_congr' fun hd => ?_
      have e3 : tput T dst r d = T d := by
        cases dst with
        | none => rfl
        | some d' =>
          have : d ≠ d' := fun he => (hl d' rfl).2 (by rw [← he]; exact hd)
          simp [tput, this]
      rw [e3]
    · exact Iff.rfl
    · rw [gvO_tput h2]
      refine forall_congr' fun g => forall_congr' fun _ => ?_
      rw [opQ_tput h1, opQ_tput h1]
theorem sameOne_tput {q : Nat} {T : Nat → AV} {dst : Option Tmp} {r : AV} {H H' : Heap} (h : ∀ o, ops[q]? = some o → ∀ d, dst = some d → d ∉ looks (ops := ops) o ∧ o.dst ≠ some d) :
    sameOne P z ops q (tput T dst r) H H' → sameOne P z ops q T H H' := (sameOne_tput_iff h).1
def Good (P : Program) (z : TypeId → AV) (ops : Array Oper) (o : Oper) (k : DK) (T : Nat → AV) (H : Heap) (v : AV) : Prop :=
  match k with
  | .m => ∃ g x, gvO ops T o = some g ∧ o.op = .move x ∧ v = putG o g (strip g (evO T x))
  | .q => ∃ g, gvO ops T o = some g ∧ ((∃ C r, opQ P z H g T o.op = some (C, r) ∧ (g = true → C) ∧ v = putG o g r) ∨ (opQ P z H g T o.op = none ∧ g = false ∧ v = putG o g .junk))
  | .c => ∃ g fo args ts r, gvO ops T o = some g ∧ o.op = .call ⟨.value fo, args, ts⟩ ∧ (g = true → CallQ P (strip g (evO T fo)) (args.toList.map fun x => strip g (evO T x)) H r) ∧ v = putG o g r
  | .w _ => False
def DK.isW : DK → Bool
  | .w _ => true
  | _ => false
theorem dstep_good {i : Nat} {k : DK} {I : List Nat} {T : Nat → AV} {H : Heap} {n : Nat} {K : (Nat → AV) → Heap → Nat → Prop} {Q : AEx → (Nat → AV) → Heap → Nat → Prop} {o : Oper} (ho : ops[i]? = some o) (hk : k.isW = false) :
    dstep P z N ops i k I T H n K Q ↔ dOK N o.dst ∧ ∃ v, Good P z ops o k T H v ∧ K (tput T o.dst v) H n := by
  unfold dstep
  rw [ho]
  simp only
  refine and_congr_right fun _ => ?_
  cases k with
  | w inc => simp [DK.isW] at hk
  | m =>
    simp only [Good]
    cases hg : gvO ops T o with
    | none => simp [contB]
    | some g =>
      simp only [contB]
      constructor
      · intro h
        split at h
        · rename_i x ex; exact ⟨_, ⟨g, x, rfl, ex, rfl⟩, h⟩
        · exact h.elim
      · rintro ⟨v, ⟨g', x, e1, e2, e3⟩, h⟩
        cases e1
        rw [e2]
        subst e3
        exact h
  | q =>
    simp only [Good]
    cases hg : gvO ops T o with
    | none => simp [contB]
    | some g =>
      simp only [contB]
      cases hq : opQ P z H g T o.op with
      | none =>
        constructor
        · rintro ⟨h1, h2⟩; exact ⟨_, ⟨g, rfl, .inr ⟨hq, h1, rfl⟩⟩, h2⟩
        · rintro ⟨v, ⟨g', e1, e2⟩, h⟩
          cases e1
          rcases e2 with ⟨C, r, e2, _⟩ | ⟨_, e3, e4⟩
          · rw [hq] at e2; simp at e2
          · subst e4; exact ⟨e3, h⟩
      | some p =>
        obtain ⟨C, r⟩ := p
        constructor
        · rintro ⟨h1, h2⟩; exact ⟨_, ⟨g, rfl, .inl ⟨C, r, hq, h1, rfl⟩⟩, h2⟩
        · rintro ⟨v, ⟨g', e1, e2⟩, h⟩
          cases e1
          rcases e2 with ⟨C', r', e2, e3, e4⟩ | ⟨e2, _⟩
          · rw [hq] at e2; cases e2; subst e4; exact ⟨e3, h⟩
          · rw [hq] at e2; simp at e2
  | c =>
    simp only [Good]
    constructor
    · intro h
      split at h
      · rename_i fo args ts ex
        cases hg : gvO ops T o with
        | none => rw [hg] at h; exact h.elim
        | some g =>
          rw [hg] at h
          obtain ⟨r, h1, h2⟩ := h
          exact ⟨_, ⟨g, fo, args, ts, r, rfl, ex, h1, rfl⟩, h2⟩
      · exact h.elim
    · rintro ⟨v, ⟨g, fo, args, ts, r, e1, e2, e3, e4⟩, h⟩
      rw [e2]
      simp only [e1, contB]
      subst e4
      exact ⟨r, e3, h⟩
theorem Good.tput {o : Oper} {k : DK} {T : Nat → AV} {H : Heap} {v : AV} {dst : Option Tmp} {r : AV} (h : ∀ d, dst = some d → d ∉ looks (ops := ops) o) :
    Good P z ops o k (tput T dst r) H v ↔ Good P z ops o k T H v := by
  have h1 : ∀ d, dst = some d → d ∉ opTmps o.op := fun d hd hm => h d hd (List.mem_append_left _ hm)
  have h2 : ∀ d, dst = some d → d ∉ gTmps (ops := ops) o := fun d hd hm => h d hd (List.mem_append_right _ hm)
  cases k with
  | w _ => exact Iff.rfl
  | m =>
    simp only [Good, gvO_tput h2]
    constructor
    · rintro ⟨g, x, e1, e2, e3⟩
      rw [evO_op h1 (by rw [e2]; simp [Op.operands])] at e3
      exact ⟨g, x, e1, e2, e3⟩
    · rintro ⟨g, x, e1, e2, e3⟩
      refine ⟨g, x, e1, e2, ?_⟩
      rw [evO_op h1 (by rw [e2]; simp [Op.operands])]
      exact e3
  | q => simp only [Good, gvO_tput h2, opQ_tput h1]
  | c =>
    have key : ∀ fo args ts, o.op = .call ⟨.value fo, args, ts⟩ → evO (Sx.tput T dst r) fo = evO T fo ∧ ∀ g, (args.toList.map fun x => strip g (evO (Sx.tput T dst r) x)) = args.toList.map fun x => strip g (evO T x) := fun fo args ts e => by
      refine ⟨evO_op h1 (by rw [e]; simp [Op.operands, Call.operands]), fun g => List.map_congr_left fun x hx => ?_⟩
      rw [evO_op h1 (by rw [e]; simp at hx; simp [Op.operands, Call.operands, hx])]
    simp only [Good, gvO_tput h2]
    constructor
    · rintro ⟨g, fo, args, ts, r', e1, e2, e3, e4⟩
      obtain ⟨k1, k2⟩ := key fo args ts e2
      rw [k1, k2 g] at e3
      exact ⟨g, fo, args, ts, r', e1, e2, e3, e4⟩
    · rintro ⟨g, fo, args, ts, r', e1, e2, e3, e4⟩
      obtain ⟨k1, k2⟩ := key fo args ts e2
      refine ⟨g, fo, args, ts, r', e1, e2, ?_, e4⟩
      rw [k1, k2 g]; exact e3
theorem Good.heap {q : Nat} {o : Oper} (ho : ops[q]? = some o) {k : DK} {T : Nat → AV} {H H' : Heap} {v : AV} (hg : Good P z ops o k T H v) (hd : ∀ d, o.dst = some d → d ∉ looks (ops := ops) o)
    (hdst : k.isW = false → (∃ d, o.dst = some d) ∨ ∀ fo args ts, o.op ≠ .call ⟨.value fo, args, ts⟩)
    (hs : k = .m ∨ sameOne P z ops q (Sx.tput T o.dst v) H H') : Good P z ops o k T H' v := by
  cases k with
  | m => exact hg
  | w _ => exact hg
  | q =>
    have hs := hs.resolve_left (by simp)
    obtain ⟨g, e1, e2⟩ := hg
    have h1 : ∀ d, o.dst = some d → d ∉ opTmps o.op := fun d hd' hm => hd d hd' (List.mem_append_left _ hm)
    have h2 : ∀ d, o.dst = some d → d ∉ gTmps (ops := ops) o := fun d hd' hm => hd d hd' (List.mem_append_right _ hm)
    unfold sameOne at hs
    rw [ho] at hs
    simp only at hs
    have hqc : ∀ fo args ts, o.op ≠ .call ⟨.value fo, args, ts⟩ ∨ opQ P z H g T o.op = none := fun fo args ts => by
      by_cases e : o.op = .call ⟨.value fo, args, ts⟩
      · right; rw [e]; rfl
      · exact .inl e
    have fin : opQ P z H' g T o.op = opQ P z H g T o.op := by
      split at hs
      · rename_i fo args ts hop hgd
        rw [hop]; rfl
      · exact hs.elim
      · have := hs g (by rw [gvO_tput h2]; exact e1)
        rwa [opQ_tput h1, opQ_tput h1] at this
    exact ⟨g, e1, by rw [fin]; exact e2⟩
  | c =>
    have hs := hs.resolve_left (by simp)
    obtain ⟨g, fo, args, ts, r, e1, e2, e3, e4⟩ := hg
    unfold sameOne at hs
    rw [ho] at hs
    simp only at hs
    rw [e2] at hs
    cases hgd : o.guard with
    | some jb => rw [hgd] at hs; exact hs.elim
    | none =>
      rw [hgd] at hs
      have eg : g = true := by unfold gvO at e1; rw [hgd] at e1; simpa using e1.symm
      have ev : v = r := by rw [e4]; simp [putG, hgd]
      subst ev
      obtain ⟨d, hdd⟩ := (hdst rfl).resolve_right (fun h => h _ _ _ e2)
      have h1 : ∀ d, o.dst = some d → d ∉ opTmps o.op := fun d hd' hm => hd d hd' (List.mem_append_left _ hm)
      have := hs d hdd
      have k1 : ∀ x ∈ (Op.call ⟨.value fo, args, ts⟩).operands, evO (Sx.tput T o.dst v) x = evO T x := fun x hx => evO_op h1 (by rw [e2]; exact hx)
      simp only [Op.operands, Call.operands] at k1
      have k2 : (args.toList.map fun x => strip true (evO (Sx.tput T o.dst v) x)) = args.toList.map fun x => strip true (evO T x) := List.map_congr_left fun x hx => by rw [k1 x (by simp at hx; simp [hx])]
      rw [k1 fo (by simp), k2] at this
      have k3 : Sx.tput T o.dst v d = v := by rw [hdd]; simp [Sx.tput]
      rw [k3] at this
      exact ⟨g, fo, args, ts, v, e1, e2, fun _ => by rw [eg]; exact this, e4⟩
theorem swap_w {i j : Nat} {oi oj : Oper} (hoi : ops[i]? = some oi) (hoj : ops[j]? = some oj) {ki : DK} {inc : List Nat} (hki : ki.isW = false) {I Ii : List Nat}
    (hap : Apart (ops := ops) oi oj) (hself : ∀ d, oi.dst = some d → d ∉ looks (ops := ops) oi) (hdst : ki = .m ∨ ((∃ d, oi.dst = some d) ∨ ∀ fo args ts, oi.op ≠ .call ⟨.value fo, args, ts⟩)) (hin : ki = .m ∨ i ∈ I)
    (hI : ∀ q ∈ I, q ≠ i → ∀ o, ops[q]? = some o → ∀ d, oi.dst = some d → d ∉ looks (ops := ops) o ∧ o.dst ≠ some d)
    {T : Nat → AV} {H : Heap} {n : Nat} {K : (Nat → AV) → Heap → Nat → Prop} {Q : AEx → (Nat → AV) → Heap → Nat → Prop} (hpan : ∀ p T T' H n, Q (.pan p) T H n → Q (.pan p) T' H n)
    (h : dstep P z N ops i ki Ii T H n (fun T1 H1 n1 => dstep P z N ops j (.w inc) I T1 H1 n1 K Q) Q) :
    dstep P z N ops j (.w inc) (I.filter (· != i)) T H n (fun T2 H2 n2 => dstep P z N ops i ki Ii T2 H2 n2 K Q) Q := by
  rw [dstep_good hoi hki] at h
  obtain ⟨hdi, v, hg, h⟩ := h
  unfold dstep at h ⊢
  rw [hoj] at h ⊢
  obtain ⟨hdj, hgd, h⟩ := h
  refine ⟨hdj, hgd, ?_⟩
  have hA1 : ∀ d, oi.dst = some d → d ∉ opTmps oj.op := fun d hd hm => hap.1 d hd (List.mem_append_left _ hm)
  have hfin : ∀ r H' n', ((∀ q ∈ I, sameOne P z ops q (Sx.tput T oi.dst v) H H') ∧ K (Sx.tput (Sx.tput T oi.dst v) oj.dst r) H' n') →
      (∀ q ∈ I.filter (· != i), sameOne P z ops q T H H') ∧ dstep P z N ops i ki Ii (Sx.tput T oj.dst r) H' n' K Q := fun r H' n' ⟨hs, hK⟩ => by
    refine ⟨fun q hq => ?_, ?_⟩
    · obtain ⟨hq1, hq2⟩ := List.mem_filter.1 hq
      exact sameOne_tput (hI q hq1 (by simpa using hq2)) (hs q hq1)
    · rw [dstep_good hoi hki]
      refine ⟨hdi, v, ?_, ?_⟩
      · rw [Good.tput hap.2.1]
        refine Good.heap hoi hg hself (fun _ => ?_) (hin.imp id fun hi => hs i hi)
        rcases hdst with e | e
        · subst e
          obtain ⟨g, x, _, ex, _⟩ := hg
          exact .inr fun fo args ts e => by rw [ex] at e; simp at e
        · exact e
      · rw [tput_comm _ _ _ (fun d hd e => hap.2.2 d e hd)]; exact hK
  split
  · rename_i fo args ts ex
    rw [ex] at h hA1
    simp only at h
    have e : ∀ x ∈ (Op.call ⟨.value fo, args, ts⟩).operands, evO (Sx.tput T oi.dst v) x = evO T x := fun x hx => evO_op hA1 hx
    simp only [Op.operands, Call.operands] at e
    have e2 : args.toList.map (evO (Sx.tput T oi.dst v)) = args.toList.map (evO T) := List.map_congr_left fun x hx => e x (by simp at hx; simp [hx])
    rw [e fo (by simp), e2] at h
    have h' := callK_mono (k' := fun r H' n' => (∀ q ∈ I.filter (· != i), sameOne P z ops q T H H') ∧ dstep P z N ops i ki Ii (Sx.tput T oj.dst r) H' n' K Q) (fun r H' n' hr => hfin r H' n' hr) h
    clear h hfin
    generalize evO T fo = fv at h' ⊢
    exact callK_mono2 (fun _ _ _ h => h) (fun r H n hr => hpan _ _ _ _ _ hr) h'
  · rename_i hne
    split at h
    · rename_i fo args ts ex; exact (hne _ _ _ ex).elim
    · rw [opW_tput hA1] at h
      cases hw : opW P z H n T oj.op with
      | none => rw [hw] at h; exact h.elim
      | some p =>
        obtain ⟨C, r, H', n'⟩ := p
        rw [hw] at h
        exact ⟨h.1, hfin r H' n' h.2⟩
theorem swap_q {i j : Nat} {oi oj : Oper} (hoi : ops[i]? = some oi) (hoj : ops[j]? = some oj) {ki kj : DK} (hki : ki.isW = false) (hkj : kj.isW = false) {I Ii : List Nat}
    (hap : Apart (ops := ops) oi oj)
    {T : Nat → AV} {H : Heap} {n : Nat} {K : (Nat → AV) → Heap → Nat → Prop} {Q : AEx → (Nat → AV) → Heap → Nat → Prop}
    (h : dstep P z N ops i ki Ii T H n (fun T1 H1 n1 => dstep P z N ops j kj I T1 H1 n1 K Q) Q) :
    dstep P z N ops j kj I T H n (fun T2 H2 n2 => dstep P z N ops i ki Ii T2 H2 n2 K Q) Q := by
  rw [dstep_good hoi hki] at h
  obtain ⟨hdi, v, hg, h⟩ := h
  rw [dstep_good hoj hkj] at h ⊢
  obtain ⟨hdj, u, hgj, h⟩ := h
  rw [Good.tput hap.1] at hgj
  refine ⟨hdj, u, hgj, ?_⟩
  rw [dstep_good hoi hki]
  refine ⟨hdi, v, ?_, ?_⟩
  · rw [Good.tput hap.2.1]; exact hg
  · rw [tput_comm _ _ _ (fun d hd e => hap.2.2 d e hd)]; exact h
theorem swap_m {i j : Nat} {oi oj : Oper} (hoi : ops[i]? = some oi) (hoj : ops[j]? = some oj) {inc : List Nat} {I Ii : List Nat}
    (hap : Apart (ops := ops) oi oj) {x : Operand} (hm : oj.op = .move x) (hgd : oj.guard = none) (hdj : dOK N oj.dst)
    (hI : ∀ q ∈ Ii, ∀ o, ops[q]? = some o → ∀ d, oj.dst = some d → d ∉ looks (ops := ops) o ∧ o.dst ≠ some d)
    {T : Nat → AV} {H : Heap} {n : Nat} {K : (Nat → AV) → Heap → Nat → Prop} {Q : AEx → (Nat → AV) → Heap → Nat → Prop} (hpan : ∀ p T T' H n, Q (.pan p) T H n → Q (.pan p) T' H n)
    (h : dstep P z N ops i (.w inc) Ii T H n (fun T1 H1 n1 => dstep P z N ops j .m I T1 H1 n1 K Q) Q) :
    dstep P z N ops j .m I T H n (fun T2 H2 n2 => dstep P z N ops i (.w inc) Ii T2 H2 n2 K Q) Q := by
  rw [dstep_good hoj rfl]
  have hgj : ∀ T H, Good P z ops oj .m T H (putG oj true (strip true (evO T x))) := fun T H => ⟨true, x, by simp [gvO, hgd], hm, rfl⟩
  have hput : ∀ v, putG oj true v = v := fun v => by simp [putG, hgd]
  refine ⟨hdj, _, hgj T H, ?_⟩
  rw [hput]
  unfold dstep at h ⊢
  rw [hoi] at h ⊢
  obtain ⟨hdi, hgi, h⟩ := h
  refine ⟨hdi, hgi, ?_⟩
  have hA1 : ∀ d, oj.dst = some d → d ∉ opTmps oi.op := fun d hd hm => hap.2.1 d hd (List.mem_append_left _ hm)
  have hfin : ∀ r H' n', ((∀ q ∈ Ii, sameOne P z ops q T H H') ∧ dstep P z N ops j .m I (Sx.tput T oi.dst r) H' n' K Q) →
      (∀ q ∈ Ii, sameOne P z ops q (Sx.tput T oj.dst (strip true (evO T x))) H H') ∧ K (Sx.tput (Sx.tput T oj.dst (strip true (evO T x))) oi.dst r) H' n' := fun r H' n' ⟨hs, hK⟩ => by
    refine ⟨fun q hq => (sameOne_tput_iff (hI q hq)).2 (hs q hq), ?_⟩
    rw [dstep_good hoj rfl] at hK
    obtain ⟨_, v, hv, hK⟩ := hK
    obtain ⟨g, x', e1, e2, e3⟩ := hv
    have eg : g = true := by unfold gvO at e1; rw [hgd] at e1; simpa using e1.symm
    rw [hm] at e2
    cases e2
    subst eg
    rw [hput] at e3
    have hx : evO (Sx.tput T oi.dst r) x = evO T x := evO_tput fun d hd e => hap.1 d hd (List.mem_append_left _ (by rw [hm]; exact mem_opTmps (by simp [Op.operands, e])))
    rw [hx] at e3
    subst e3
    rw [tput_comm _ _ _ hap.2.2] at hK
    exact hK
  split
  · rename_i fo args ts ex
    rw [ex] at h hA1
    simp only at h
    have e : ∀ y ∈ (Op.call ⟨.value fo, args, ts⟩).operands, evO (Sx.tput T oj.dst (strip true (evO T x))) y = evO T y := fun y hy => evO_op hA1 hy
    simp only [Op.operands, Call.operands] at e
    have e2 : args.toList.map (evO (Sx.tput T oj.dst (strip true (evO T x)))) = args.toList.map (evO T) := List.map_congr_left fun y hy => e y (by simp at hy; simp [hy])
    rw [e fo (by simp), e2]
    have h' := callK_mono (k' := fun r H' n' => (∀ q ∈ Ii, sameOne P z ops q (Sx.tput T oj.dst (strip true (evO T x))) H H') ∧ K (Sx.tput (Sx.tput T oj.dst (strip true (evO T x))) oi.dst r) H' n') (fun r H' n' hr => hfin r H' n' hr) h
    clear h hfin
    generalize evO T fo = fv at h' ⊢
    exact callK_mono2 (fun _ _ _ h => h) (fun r H n hr => hpan _ _ _ _ _ hr) h'
  · rename_i hne
    split at h
    · rename_i fo args ts ex; exact (hne _ _ _ ex).elim
    · rw [opW_tput hA1]
      cases hw : opW P z H n T oi.op with
      | none => rw [hw] at h; exact h.elim
      | some p =>
        obtain ⟨C, r, H', n'⟩ := p
        rw [hw] at h
        exact ⟨h.1, hfin r H' n' h.2⟩
end
end Go.Sx
namespace Go.Sx
open Go
def edgesOf (o : Oper) : List Nat := (o.after.toList.filter fun e => Region.binds .any e).map (·.on)
def ancs : List Nat → List Oper → List Nat
  | acc, [] => acc
  | acc, o :: os => ancs (acc ++ [(edgesOf o).foldl (fun m e => m ||| (1 <<< e) ||| acc.getD e 0) 0]) os
def isAnc (b : List Nat) (p i : Nat) : Bool := (b.getD i 0).testBit p
theorem foldl_bits (acc : List Nat) : ∀ (l : List Nat) (m p : Nat), (l.foldl (fun m e => m ||| (1 <<< e) ||| acc.getD e 0) m).testBit p = true → m.testBit p = true ∨ ∃ e ∈ l, p = e ∨ (acc.getD e 0).testBit p = true
  | [], m, p, h => .inl h
  | e :: l, m, p, h => by
    rcases foldl_bits acc l _ p h with h | ⟨e', he, h⟩
    · rw [Nat.testBit_or, Nat.testBit_or, Bool.or_eq_true, Bool.or_eq_true] at h
      rcases h with (h | h) | h
      · exact .inl h
      · right
        refine ⟨e, by simp, .inl ?_⟩
        rw [Nat.testBit_shiftLeft] at h
        simp at h
        have h2 : p - e = 0 := by
          rcases Nat.eq_zero_or_pos (p - e) with h0 | h0
          · exact h0
          · have := h.2; rw [Nat.testBit_one_eq_true_iff_self_eq_zero] at this; omega
        omega
      · exact .inr ⟨e, by simp, .inr h⟩
    · exact .inr ⟨e', by simp [he], h⟩
theorem ancs_old : ∀ (os : List Oper) (acc : List Nat) (i : Nat), i < acc.length → (ancs acc os).getD i 0 = acc.getD i 0
  | [], acc, i, h => rfl
  | o :: os, acc, i, h => by
    unfold ancs
    rw [ancs_old os _ i (by simp; omega)]
    simp [List.getD, List.getElem?_append_left h]
theorem ancs_spec : ∀ (os : List Oper) (acc : List Nat) (i : Nat) (o : Oper), os[i]? = some o → (∀ e ∈ edgesOf o, e < acc.length + i) → ∀ p, ((ancs acc os).getD (acc.length + i) 0).testBit p = true →
    ∃ e ∈ edgesOf o, p = e ∨ ((ancs acc os).getD e 0).testBit p = true
  | [], acc, i, o, h, _, p, _ => by simp at h
  | o' :: os, acc, 0, o, h, he, p, hp => by
    simp at h
    subst h
    have e0 : (ancs acc (o' :: os)).getD (acc.length + 0) 0 = (edgesOf o').foldl (fun m e => m ||| (1 <<< e) ||| acc.getD e 0) 0 := by
      unfold ancs
      rw [ancs_old os _ _ (by simp)]
      simp [List.getD]
    rw [e0] at hp
    rcases foldl_bits acc _ _ _ hp with h | ⟨e, hee, h⟩
    · simp at h
    · refine ⟨e, hee, h.imp id fun h => ?_⟩
      have := he e hee
      unfold ancs
      rw [ancs_old os _ e (by simp; omega)]
      rw [show (acc ++ [List.foldl (fun m e => m ||| 1 <<< e ||| acc.getD e 0) 0 (edgesOf o')]).getD e 0 = acc.getD e 0 by simp [List.getD, List.getElem?_append_left (show e < acc.length by omega)]]
      exact h
  | o' :: os, acc, i + 1, o, h, he, p, hp => by
    simp at h
    have := ancs_spec os (acc ++ [(edgesOf o').foldl (fun m e => m ||| (1 <<< e) ||| acc.getD e 0) 0]) i o h (fun e hee => by have := he e hee; simp; omega) p
      (by simp only [List.length_append, List.length_cons, List.length_nil]; rw [show acc.length + (0 + 1) + i = acc.length + (i + 1) by omega]; exact hp)
    exact this
def disj (a b : List Nat) : Bool := a.all fun x => !b.contains x
section
variable (ops : Array Oper)
def looksL (l : List Oper) (o : Oper) : List Tmp :=
  opTmps o.op ++ (match o.guard with | some (j, _) => ((l[j]?).bind (·.dst)).toList | none => [])
theorem looksL_eq (o : Oper) : looksL ops.toList o = looks (ops := ops) o := by
  unfold looksL looks gTmps gtmp
  cases o.guard with
  | none => rfl
  | some jb => obtain ⟨j, b⟩ := jb; simp
def isCallV : Op → Bool
  | .call ⟨.value _, _, _⟩ => true
  | _ => false
def isMove : Op → Bool
  | .move _ => true
  | _ => false
def apartB (l : List Oper) (o o' : Oper) : Bool :=
  disj o.dst.toList (looksL l o') && disj o'.dst.toList (looksL l o) && disj o.dst.toList o'.dst.toList
def pairB (l : List Oper) (N i j : Nat) (oi oj : Oper) (ki kj : DK) : Bool :=
  apartB l oi oj &&
  match ki, kj with
  | .w _, .m => isMove oj.op && oj.guard.isNone && (match oj.dst with | some d => decide (d < N) | none => true) && disj oj.dst.toList (ki.inc.flatMap fun q => match l[q]? with | some o => looksL l o ++ o.dst.toList | none => [])
  | .w _, _ => false
  | .m, _ => true
  | _, .w inc => inc.contains i && (oi.dst.isSome || !isCallV oi.op)
  | _, _ => true
def incB (l : List Oper) (b : List Nat) (j q : Nat) : Bool :=
  match l[q]? with
  | none => false
  | some oq => decide (q < j) && disj oq.dst.toList (looksL l oq) &&
    (List.range j).all fun p => p == q || isAnc b p q || (match l[p]? with | some op => disj op.dst.toList (looksL l oq ++ oq.dst.toList) | none => true)
def selfB (l : List Oper) (o : Oper) : Bool := disj o.dst.toList (looksL l o)
def dcheck (l : List Oper) (N : Nat) (ks : List DK) : Bool :=
  let b := ancs [] l
  ks.length == l.length &&
  (l.zipIdx.all fun (o, i) => (edgesOf o).all fun e => decide (e < i)) &&
  ((l.zip ks).zipIdx.all fun ((oj, kj), j) =>
    (match kj with | .w inc => inc.all fun q => incB l b j q | _ => true) &&
    ((l.zip ks).zipIdx.take j).all fun ((oi, ki), i) => isAnc b i j || (pairB l N i j oi oj ki kj && (selfB l oi || ki.isW)))
end
theorem disj_spec {a b : List Nat} (h : disj a b = true) {x : Nat} (hx : x ∈ a) : x ∉ b := by
  unfold disj at h
  have := List.all_eq_true.1 h x hx
  simpa using this
theorem apartB_spec {ops : Array Oper} {o o' : Oper} (h : apartB ops.toList o o' = true) : Apart (ops := ops) o o' := by
  unfold apartB at h
  simp only [Bool.and_eq_true] at h
  refine ⟨fun d hd => ?_, fun d hd => ?_, fun d hd e => ?_⟩
  · rw [← looksL_eq]; exact disj_spec h.1.1 (by simp [hd])
  · rw [← looksL_eq]; exact disj_spec h.1.2 (by simp [hd])
  · exact disj_spec h.2 (x := d) (by simp [hd]) (by simp [e])
section
variable {P : Program} {z : TypeId → AV} {N : Nat} {ops : Array Oper}
def PairOK (ops : Array Oper) (N : Nat) (i : Nat) (ki : DK) (j : Nat) (kj : DK) : Prop :=
  ∃ oi oj, ops[i]? = some oi ∧ ops[j]? = some oj ∧ Apart (ops := ops) oi oj ∧
    ((ki.isW = false ∧ kj.isW = false) ∨
     (ki.isW = false ∧ kj.isW = true ∧ (∀ d, oi.dst = some d → d ∉ looks (ops := ops) oi) ∧ (ki = .m ∨ ((∃ d, oi.dst = some d) ∨ ∀ fo args ts, oi.op ≠ .call ⟨.value fo, args, ts⟩))) ∨
     (ki.isW = true ∧ kj = .m ∧ (∃ x, oj.op = .move x) ∧ oj.guard = none ∧ dOK N oj.dst ∧ ∀ q ∈ ki.inc, ∀ o, ops[q]? = some o → ∀ d, oj.dst = some d → d ∉ looks (ops := ops) o ∧ o.dst ≠ some d))
def apartDst (ops : Array Oper) (p q : Nat) : Prop := ∀ op oq, ops[p]? = some op → ops[q]? = some oq → ∀ d, op.dst = some d → d ∉ looks (ops := ops) oq ∧ oq.dst ≠ some d
theorem front {Q : AEx → (Nat → AV) → Heap → Nat → Prop} (hpan : ∀ p T T' H n, Q (.pan p) T H n → Q (.pan p) T' H n) (j : Nat) (kj : DK) :
    ∀ (m : Nat) (pre : List (Nat × DK × List Nat)) (I : List Nat) (post : List (Nat × DK × List Nat)) (T : Nat → AV) (H : Heap) (n : Nat), pre.length = m →
      (∀ p ∈ pre, ∀ x ∈ p.2.2, x ∈ p.2.1.inc) → (∀ p ∈ pre, PairOK ops N p.1 p.2.1 j kj) → (kj.isW = true → ∀ p ∈ pre, p.2.1 = .m ∨ p.1 ∈ I) →
      (pre.map (·.1)).Pairwise (· < ·) → (kj.isW = true → ∀ q ∈ I, ∀ p ∈ pre, p.1 ≠ q → (p.1 < q ∧ q ∈ pre.map (·.1)) ∨ apartDst ops p.1 q) →
      drun P z N ops (pre ++ (j, kj, I) :: post) T H n Q → ∃ I', dstep P z N ops j kj I' T H n (fun T H n => drun P z N ops (pre ++ post) T H n Q) Q
  | 0, pre, I, post, T, H, n, hm, _, _, _, _, _, h => by
    have : pre = [] := List.length_eq_zero_iff.1 hm
    subst this
    exact ⟨I, h⟩
  | m + 1, pre, I, post, T, H, n, hm, hinc, hpair, hin, hsort, hCI, h => by
    rcases List.eq_nil_or_concat pre with rfl | ⟨L, ⟨i, ki, Ii⟩, rfl⟩
    · simp at hm
    · simp only [List.concat_eq_append] at *
      rw [List.append_assoc] at h
      simp only [List.cons_append, List.nil_append] at h
      have hLm : L.length = m := by simpa using hm
      rw [List.map_append, List.pairwise_append] at hsort
      obtain ⟨hsortL, _, hlt⟩ := hsort
      have hlt' : ∀ p ∈ L, p.1 < i := fun p hp => hlt p.1 (List.mem_map.2 ⟨p, hp, rfl⟩) i (by simp)
      have hlast : kj.isW = true → ∀ q ∈ I, q ≠ i → apartDst ops i q := fun hw q hq hne => by
        rcases hCI hw q hq (i, ki, Ii) (by simp) (fun e => hne e.symm) with ⟨h1, h2⟩ | h1
        · exfalso
          rw [List.map_append, List.mem_append] at h2
          rcases h2 with h2 | h2
          · obtain ⟨p, hp, e⟩ := List.mem_map.1 h2
            have := hlt' p hp
            simp only at h1 e
            omega
          · simp at h2; exact hne h2
        · exact h1
      obtain ⟨oi, oj, hoi, hoj, hap, hcase⟩ := hpair (i, ki, Ii) (by simp)
      have hb : ∀ T H n, drun P z N ops ((i, ki, Ii) :: (j, kj, I) :: post) T H n Q → drun P z N ops ((j, kj, if kj.isW then I.filter (· != i) else I) :: (i, ki, Ii) :: post) T H n Q := fun T H n h => by
        rcases hcase with ⟨h1, h2⟩ | ⟨h1, h2, h3, h4⟩ | ⟨h1, h2, ⟨x, hx⟩, h4, h5, h6⟩
        · simp only [h2, Bool.false_eq_true, if_false]
          exact swap_q hoi hoj h1 h2 hap h
        · simp only [h2, if_true]
          cases kj with
          | w inc =>
            refine swap_w hoi hoj h1 hap h3 h4 ?_ (fun q hq hne o ho d hd => hlast rfl q hq hne oi o hoi ho d hd) hpan h
            exact hin rfl (i, ki, Ii) (by simp)
          | m => simp [DK.isW] at h2
          | q => simp [DK.isW] at h2
          | c => simp [DK.isW] at h2
        · subst h2
          simp only [DK.isW, Bool.false_eq_true, if_false]
          cases ki with
          | w inc => exact swap_m hoi hoj hap hx h4 h5 (fun q hq => h6 q (hinc (i, .w inc, Ii) (by simp) q hq)) hpan h
          | m => simp [DK.isW] at h1
          | q => simp [DK.isW] at h1
          | c => simp [DK.isW] at h1
      have h2 := drun_mono_tail hb L T H n h
      obtain ⟨I', hI'⟩ := front hpan j kj m L (if kj.isW then I.filter (· != i) else I) ((i, ki, Ii) :: post) T H n hLm (fun p hp => hinc p (by simp [hp])) (fun p hp => hpair p (by simp [hp]))
        (fun hw p hp => (hin hw p (by simp [hp])).imp id fun h => by
          rw [if_pos hw]
          exact List.mem_filter.2 ⟨h, by have := hlt' p hp; simp; omega⟩) hsortL
        (fun hw q hq p hp hne => by
          rw [if_pos hw] at hq
          obtain ⟨hq1, hq2⟩ := List.mem_filter.1 hq
          rcases hCI hw q hq1 p (by simp [hp]) hne with ⟨h1, h2⟩ | h1
          · rw [List.map_append, List.mem_append] at h2
            rcases h2 with h2 | h2
            · exact .inl ⟨h1, h2⟩
            · simp at h2 hq2; exact absurd h2 hq2
          · exact .inr h1) h2
      exact ⟨I', by rw [List.append_assoc]; exact hI'⟩
theorem dstep_sound {i : Nat} {k : DK} {I : List Nat} {T : Nat → AV} {H : Heap} {n : Nat} {K : (Nat → AV) → Heap → Nat → Prop} {Q : AEx → (Nat → AV) → Heap → Nat → Prop}
    (h : dstep P z N ops i k I T H n K Q) {c0 : Ctx} {H0 : Heap} {w0 : World} {c : Ctx} {w : World} {a : Act} (hst : Step c0 H0 w0 c H n w) (hr : RelTmps c T a.tmps) (hN : a.tmps.size = N) (hd : a.defers = [])
    {next : Act → World → Prop} (hnext : ∀ T' c' H' n' a' w', K T' H' n' → Step c0 H0 w0 c' H' n' w' → RelTmps c' T' a'.tmps → a'.tmps.size = N → a'.defers = [] → next a' w') :
    wpOp P ops (APost N c0 H0 w0 Q) i next a w := by
  unfold dstep at h
  unfold wpOp
  split at h
  · exact h.elim
  · rename_i o ho
    rw [ho]
    simp only
    obtain ⟨hdst, h⟩ := h
    have hd' : ∀ d, o.dst = some d → d < a.tmps.size := fun d hd2 => by rw [hd2] at hdst; rw [hN]; exact hdst
    have hε : ∀ x ∈ o.op.operands, Rel c (evO T x) false [a.eval x] := fun x _ => evO_rel hr x
    have hgv : ∀ g, gvO ops T o = some g → Region.wanted o (yielded ops a.tmps) = g := fun g hg => by
      unfold gvO at hg
      cases hgd : o.guard with
      | none => rw [hgd] at hg; simp at hg; subst hg; exact wanted_none hgd
      | some jb =>
        obtain ⟨j, b⟩ := jb
        rw [hgd] at hg
        simp only at hg
        cases ht : gtmp ops j with
        | none => rw [ht] at hg; simp at hg
        | some t => rw [ht] at hg; exact gval_spec hr hgd ht (by simpa using hg)
    have skip : ∀ r, K (tput T o.dst (putG o false r)) H n → gvO ops T o = some false → next (a.put o.dst undef) w := fun r hK hg => by
      refine hnext _ c H n _ w hK hst ?_ (by rw [put_size, hN]) (by rw [put_defers', hd])
      refine tput_rel hr ?_ hd'
      unfold putG
      cases hgd : o.guard with
      | none => unfold gvO at hg; rw [hgd] at hg; simp at hg
      | some _ => simp [Rel]
    have put_true : ∀ c' r v, Rel c' r false [v] → Rel c' (putG o true r) false [v] := fun c' r v h => by
      unfold putG
      cases o.guard with
      | none => exact h
      | some _ => exact opt_rel rfl h
    have doQ : ∀ r, QT P o.op T H r → K (tput T o.dst (putG o true r)) H n → o.wp P a w next (APost N c0 H0 w0 Q) := fun r hq hK => by
      refine OpT.of_qt (n := n) (K := fun res H' n' => res = .val r ∧ H' = H ∧ n' = n) hq ⟨rfl, rfl, rfl⟩ c w a hst.sim hε _ _ ?_ ?_
      · rintro r' v c' H' n' w' ⟨e1, rfl, rfl⟩ hst' hrel
        cases e1
        exact hnext _ c' _ _ _ w' hK (hst.trans hst') (tput_rel (RelTmps.mono hst'.le hr) (put_true _ _ _ hrel) hd') (by rw [put_size, hN]) (by rw [put_defers', hd])
      · rintro p v c' H' n' w' ⟨e1, _, _⟩
        cases e1
    cases k with
    | m =>
      simp only at h
      cases hg : gvO ops T o with
      | none => rw [hg] at h; exact h.elim
      | some g =>
        rw [hg] at h
        simp only [contB] at h
        split at h
        · rename_i x ex
          cases g with
          | true =>
            rw [if_pos (hgv true hg)]
            left
            exact doQ _ (by rw [ex]; exact QT.of_qs rfl qs_move) h
          | false =>
            rw [if_neg (by simp [hgv false hg])]
            exact skip _ h hg
        · exact h.elim
    | q =>
      simp only at h
      cases hg : gvO ops T o with
      | none => rw [hg] at h; exact h.elim
      | some g =>
        rw [hg] at h
        simp only [contB] at h
        cases hq : opQ P z H g T o.op with
        | none =>
          rw [hq] at h
          obtain ⟨rfl, h⟩ := h
          rw [if_neg (by simp [hgv false hg])]
          exact skip _ h hg
        | some p =>
          obtain ⟨C, r⟩ := p
          rw [hq] at h
          cases g with
          | true =>
            rw [if_pos (hgv true hg)]
            left
            exact doQ _ (opQ_sound hq rfl (h.1 rfl)) h.2
          | false =>
            rw [if_neg (by simp [hgv false hg])]
            exact skip _ h.2 hg
    | c =>
      simp only at h
      split at h
      · rename_i fo args ts ex
        cases hg : gvO ops T o with
        | none => rw [hg] at h; exact h.elim
        | some g =>
          rw [hg] at h
          obtain ⟨r, h1, h2⟩ := h
          cases g with
          | true =>
            rw [if_pos (hgv true hg)]
            left
            have hcall := OpT.call (P := P) (dst := o.dst) (ty := o.type) (pos := o.pos) (after := o.after) (guard := o.guard) (ts := ts) (ε := fun x => strip true (evO T x)) (h1 rfl n)
            have eo : (⟨o.dst, .call ⟨.value fo, args, ts⟩, o.type, o.pos, o.after, o.guard⟩ : Oper) = o := by rw [← ex]
            rw [eo] at hcall
            refine hcall c w a hst.sim (fun x hx => strip_rel rfl (hε x hx)) _ _ ?_ ?_
            · rintro r' v c' H' n' w' ⟨rfl, rfl, rfl⟩ hst' hrel
              exact hnext _ c' _ _ _ w' h2 (hst.trans hst') (tput_rel (RelTmps.mono hst'.le hr) (put_true _ _ _ hrel) hd') (by rw [put_size, hN]) (by rw [put_defers', hd])
            · intro p v c' H' n' w' hf; exact hf.elim
          | false =>
            rw [if_neg (by simp [hgv false hg])]
            exact skip _ h2 hg
      · exact h.elim
    | w inc =>
      obtain ⟨hgd, h⟩ := h
      rw [if_pos (wanted_none hgd)]
      left
      split at h
      · rename_i fo args ts ex
        have hcall := OpT.call (P := P) (dst := o.dst) (ty := o.type) (pos := o.pos) (after := o.after) (guard := o.guard) (ts := ts) (ε := evO T) h
        have eo : (⟨o.dst, .call ⟨.value fo, args, ts⟩, o.type, o.pos, o.after, o.guard⟩ : Oper) = o := by rw [← ex]
        rw [eo] at hcall
        refine hcall c w a hst.sim hε _ _ ?_ ?_
        · rintro r v c' H' n' w' ⟨_, hK⟩ hst' hrel
          exact hnext _ c' _ _ _ w' hK (hst.trans hst') (tput_rel (RelTmps.mono hst'.le hr) hrel hd') (by rw [put_size, hN]) (by rw [put_defers', hd])
        · intro p v c' H' n' w' hq hst' hrel
          exact ⟨.pan p, c', T, H', n', hq, ⟨v, rfl, hrel⟩, hst.trans hst', RelTmps.mono hst'.le hr, hN, hd⟩
      · rename_i hne
        cases hw : opW P z H n T o.op with
        | none => rw [hw] at h; exact h.elim
        | some p =>
          obtain ⟨C, r, H', n'⟩ := p
          rw [hw] at h
          obtain ⟨hC, _, hK⟩ := h
          have eo : (⟨o.dst, o.op, o.type, o.pos, o.after, o.guard⟩ : Oper) = o := rfl
          have hop := opW_sound (dst := o.dst) (ty := o.type) (pos := o.pos) (after := o.after) (guard := o.guard) (K := fun res H2 n2 => res = .val r ∧ H2 = H' ∧ n2 = n') hw hC ⟨rfl, rfl, rfl⟩
          rw [eo] at hop
          refine hop c w a hst.sim hε _ _ ?_ ?_
          · rintro r' v c' H2 n2 w' ⟨e1, rfl, rfl⟩ hst' hrel
            cases e1
            exact hnext _ c' _ _ _ w' hK (hst.trans hst') (tput_rel (RelTmps.mono hst'.le hr) hrel hd') (by rw [put_size, hN]) (by rw [put_defers', hd])
          · rintro p v c' H' n' w' ⟨e1, _, _⟩
            cases e1
structure Checked (ops : Array Oper) (N : Nat) (ks : List DK) : Prop where
  len : ks.length = ops.size
  edges : ∀ i o, ops[i]? = some o → ∀ e ∈ edgesOf o, e < i
  pair : ∀ i j ki kj, i < j → ks[i]? = some ki → ks[j]? = some kj → isAnc (ancs [] ops.toList) i j = false → PairOK ops N i ki j kj ∧ (kj.isW = true → ki = .m ∨ i ∈ kj.inc)
  inc : ∀ j kj, ks[j]? = some kj → ∀ q ∈ kj.inc, q < j ∧ ∀ p, p < j → p ≠ q → isAnc (ancs [] ops.toList) p q = false → apartDst ops p q
theorem zipIdx_get {α : Type} (l : List α) (i : Nat) (x : α) (h : l[i]? = some x) : (x, i) ∈ l.zipIdx := by
  rw [List.mem_zipIdx_iff_getElem?]; exact h
theorem dcheck_spec {ks : List DK} (h : dcheck ops.toList N ks = true) : Checked ops N ks := by
  unfold dcheck at h
  simp only [Bool.and_eq_true] at h
  obtain ⟨⟨h1, h2⟩, h3⟩ := h
  have hlen : ks.length = ops.size := by simpa using h1
  have hzip : ∀ i o k, ops[i]? = some o → ks[i]? = some k → (ops.toList.zip ks)[i]? = some (o, k) := fun i o k ho hk => by
    rw [List.getElem?_zip_eq_some]; exact ⟨by simpa using ho, hk⟩
  have hop : ∀ (i : Nat) (k : DK), ks[i]? = some k → ∃ o, ops[i]? = some o := fun i k hk => by
    have : i < ks.length := by
      rcases Nat.lt_or_ge i ks.length with h | h
      · exact h
      · rw [List.getElem?_eq_none h] at hk; simp at hk
    exact ⟨ops[i]'(by omega), by simp [Array.getElem?_eq_getElem (show i < ops.size by omega)]⟩
  have hdisj : ∀ {d : Option Tmp} {l : List Nat}, disj d.toList l = true → ∀ x, d = some x → x ∉ l := fun h x hx => disj_spec h (by simp [hx])
  refine ⟨hlen, fun i o ho e he => ?_, fun i j ki kj hij hki hkj hanc => ?_, fun j kj hkj q hq => ?_⟩
  · have := List.all_eq_true.1 h2 (o, i) (zipIdx_get _ _ _ (by simpa using ho))
    exact of_decide_eq_true (List.all_eq_true.1 this e he)
  · obtain ⟨oi, hoi⟩ := hop i ki hki
    obtain ⟨oj, hoj⟩ := hop j kj hkj
    have hj := List.all_eq_true.1 h3 ((oj, kj), j) (zipIdx_get _ _ _ (hzip j oj kj hoj hkj))
    simp only [Bool.and_eq_true] at hj
    have hmem : ((oi, ki), i) ∈ (ops.toList.zip ks).zipIdx.take j := by
      rw [List.mem_iff_getElem?]
      refine ⟨i, ?_⟩
      rw [List.getElem?_take_of_lt hij, List.getElem?_zipIdx, hzip i oi ki hoi hki]; simp
    have hi := List.all_eq_true.1 hj.2 _ hmem
    simp only [hanc, Bool.false_or, Bool.and_eq_true, Bool.or_eq_true] at hi
    obtain ⟨hp, hself⟩ := hi
    unfold pairB at hp
    rw [Bool.and_eq_true] at hp
    obtain ⟨hap, hp⟩ := hp
    have hA := apartB_spec hap
    have hs : ki.isW = false → ∀ d, oi.dst = some d → d ∉ looks (ops := ops) oi := fun hk d hd => by
      rw [hk] at hself
      have := hself.resolve_right (by simp)
      rw [← looksL_eq]; exact hdisj this d hd
    have mres : ki.isW = false → kj.isW = false → PairOK ops N i ki j kj := fun a b => ⟨oi, oj, hoi, hoj, hA, .inl ⟨a, b⟩⟩
    cases kj with
    | w inc =>
      cases ki with
      | w inc' => simp at hp
      | m => exact ⟨⟨oi, oj, hoi, hoj, hA, .inr (.inl ⟨rfl, rfl, hs rfl, .inl rfl⟩)⟩, fun _ => .inl rfl⟩
      | q =>
        simp only [Bool.and_eq_true, Bool.or_eq_true, Bool.not_eq_true'] at hp
        refine ⟨⟨oi, oj, hoi, hoj, hA, .inr (.inl ⟨rfl, rfl, hs rfl, .inr ?_⟩)⟩, fun _ => .inr (by simpa [DK.inc] using hp.1)⟩
        rcases hp.2 with h | h
        · left; cases hd : oi.dst <;> simp_all
        · right; intro fo args ts e; rw [e] at h; simp [isCallV] at h
      | c =>
        simp only [Bool.and_eq_true, Bool.or_eq_true, Bool.not_eq_true'] at hp
        refine ⟨⟨oi, oj, hoi, hoj, hA, .inr (.inl ⟨rfl, rfl, hs rfl, .inr ?_⟩)⟩, fun _ => .inr (by simpa [DK.inc] using hp.1)⟩
        rcases hp.2 with h | h
        · left; cases hd : oi.dst <;> simp_all
        · right; intro fo args ts e; rw [e] at h; simp [isCallV] at h
    | m =>
      cases ki with
      | w inc' =>
        simp only [Bool.and_eq_true] at hp
        obtain ⟨⟨⟨p1, p2⟩, p3⟩, p4⟩ := hp
        refine ⟨⟨oi, oj, hoi, hoj, hA, .inr (.inr ⟨rfl, rfl, ?_, ?_, ?_, fun q hq o ho d hd => ?_⟩)⟩, fun h => by simp [DK.isW] at h⟩
        · unfold isMove at p1; split at p1
          · rename_i x e; exact ⟨x, e⟩
          · simp at p1
        · simpa using p2
        · cases hd : oj.dst with
          | none => trivial
          | some d => rw [hd] at p3; show d < N; exact of_decide_eq_true p3
        · have hn := hdisj p4 d hd
          have : ∀ x, x ∈ looksL ops.toList o ++ o.dst.toList → d ≠ x := fun x hx e => hn (List.mem_flatMap.2 ⟨q, hq, by simp only [Array.getElem?_toList, ho]; rw [e]; exact hx⟩)
          refine ⟨fun hm => ?_, fun e => ?_⟩
          · rw [← looksL_eq] at hm
            exact this d (List.mem_append_left _ hm) rfl
          · exact this d (List.mem_append_right _ (by simp [e])) rfl
      | m => exact ⟨mres rfl rfl, fun h => by simp [DK.isW] at h⟩
      | q => exact ⟨mres rfl rfl, fun h => by simp [DK.isW] at h⟩
      | c => exact ⟨mres rfl rfl, fun h => by simp [DK.isW] at h⟩
    | q =>
      cases ki with
      | w inc' => simp at hp
      | m => exact ⟨mres rfl rfl, fun h => by simp [DK.isW] at h⟩
      | q => exact ⟨mres rfl rfl, fun h => by simp [DK.isW] at h⟩
      | c => exact ⟨mres rfl rfl, fun h => by simp [DK.isW] at h⟩
    | c =>
      cases ki with
      | w inc' => simp at hp
      | m => exact ⟨mres rfl rfl, fun h => by simp [DK.isW] at h⟩
      | q => exact ⟨mres rfl rfl, fun h => by simp [DK.isW] at h⟩
      | c => exact ⟨mres rfl rfl, fun h => by simp [DK.isW] at h⟩
  · obtain ⟨oj, hoj⟩ := hop j kj hkj
    have hj := List.all_eq_true.1 h3 ((oj, kj), j) (zipIdx_get _ _ _ (hzip j oj kj hoj hkj))
    simp only [Bool.and_eq_true] at hj
    cases kj with
    | m => simp [DK.inc] at hq
    | q => simp [DK.inc] at hq
    | c => simp [DK.inc] at hq
    | w inc =>
      have hb := List.all_eq_true.1 hj.1 q hq
      unfold incB at hb
      split at hb
      · simp at hb
      · rename_i oq hoq
        simp only [Bool.and_eq_true] at hb
        obtain ⟨⟨b1, b2⟩, b3⟩ := hb
        refine ⟨of_decide_eq_true b1, fun p hp hne hanc op oq' hop hoq' d hd => ?_⟩
        have hoq2 : oq' = oq := by
          rw [Array.getElem?_toList] at hoq
          rw [hoq'] at hoq; exact Option.some.inj hoq
        subst hoq2
        have := List.all_eq_true.1 b3 p (List.mem_range.2 hp)
        simp only [hanc, Bool.or_false, Bool.or_eq_true, beq_iff_eq, Array.getElem?_toList, hop] at this
        have h5 := this.resolve_left hne
        have hn := hdisj h5 d hd
        refine ⟨fun hm => hn (List.mem_append_left _ (by rw [looksL_eq]; exact hm)), fun e => hn (List.mem_append_right _ (by simp [e]))⟩
theorem anc_listed {ks : List DK} (hc : Checked ops N ks) {listed : Array Bool} (hcl : ∀ i o, ops[i]? = some o → listed.getD i true = true → ∀ e ∈ edgesOf o, listed.getD e true = true)
    (i : Nat) (o : Oper) (ho : ops[i]? = some o) (hi : ∀ e ∈ edgesOf o, listed.getD e true = true) (p : Nat) (hp : isAnc (ancs [] ops.toList) p i = true) : listed.getD p true = true := by
  induction i using Nat.strongRecOn generalizing o with
  | _ i ih =>
    obtain ⟨e, he, h⟩ := ancs_spec ops.toList [] i o (by simpa using ho) (by simpa using hc.edges i o ho) p (by simpa [isAnc] using hp)
    rcases h with rfl | h
    · exact hi _ he
    · have hlt := hc.edges i o ho e he
      have hsz : i < ops.size := by
        rcases Nat.lt_or_ge i ops.size with h | h
        · exact h
        · rw [Array.getElem?_eq_none h] at ho; simp at ho
      have hoe : ops[e]? = some (ops[e]'(by omega)) := Array.getElem?_eq_getElem (by omega)
      exact ih e hlt _ hoe (hcl e _ hoe (hi e he)) (by simpa [isAnc] using h)
def item (ks : List DK) (i : Nat) : Nat × DK × List Nat := (i, ks.getD i .m, (ks.getD i .m).inc)
def rest (ops : Array Oper) (listed : Array Bool) : List Nat := (List.range ops.size).filter fun i => !listed.getD i true
theorem ready_eq {ks : List DK} (hc : Checked ops N ks) (listed : Array Bool) (hsz : listed.size = ops.size) (i : Nat) : i ∈ Region.ready .any ops listed ↔ i < ops.size ∧ listed.getD i true = false ∧ ∀ o, ops[i]? = some o → ∀ e ∈ edgesOf o, listed.getD e true = true := by
  unfold Region.ready
  rw [List.mem_filter, List.mem_range]
  refine and_congr_right fun hi => ?_
  have hoi : ops[i]? = some ops[i] := Array.getElem?_eq_getElem hi
  have hdef : ∀ e ∈ edgesOf ops[i], listed.getD e false = listed.getD e true := fun e he => by
    have := hc.edges i _ hoi e he
    simp [show e < listed.size by omega]
  rw [hoi]
  simp only [Option.map_some, Option.getD_some, Bool.and_eq_true, Bool.not_eq_true', Option.some.injEq]
  refine and_congr_right fun _ => ?_
  constructor
  · rintro h o rfl e he
    unfold edgesOf at he
    obtain ⟨ed, hed, rfl⟩ := List.mem_map.1 he
    obtain ⟨hm, hbind⟩ := List.mem_filter.1 hed
    have := Array.all_eq_true_iff_forall_mem.1 h ed (by simpa using hm)
    rw [← hdef ed.on (List.mem_map.2 ⟨ed, List.mem_filter.2 ⟨hm, hbind⟩, rfl⟩)]
    simpa [hbind] using this
  · intro h
    rw [Array.all_eq_true_iff_forall_mem]
    intro ed hm
    cases hb : Region.binds .any ed with
    | false => simp
    | true =>
      have hin : ed.on ∈ edgesOf ops[i] := List.mem_map.2 ⟨ed, List.mem_filter.2 ⟨by simpa using hm, hb⟩, rfl⟩
      rw [hdef _ hin]
      simpa using h _ rfl ed.on hin
theorem drun_any {ks : List DK} (hc : Checked ops N ks) {Q : AEx → (Nat → AV) → Heap → Nat → Prop} (hpan : ∀ p T T' H n, Q (.pan p) T H n → Q (.pan p) T' H n) {c0 : Ctx} {H0 : Heap} {w0 : World} :
    ∀ (fuel : Nat) (listed : Array Bool), listed.size = ops.size → (rest ops listed).length = fuel → (∀ i o, ops[i]? = some o → listed.getD i true = true → ∀ e ∈ edgesOf o, listed.getD e true = true) →
      ∀ (c : Ctx) (w : World) (a : Act) (T : Nat → AV) (H : Heap) (n : Nat), Step c0 H0 w0 c H n w → RelTmps c T a.tmps → a.tmps.size = N → a.defers = [] →
        drun P z N ops ((rest ops listed).map (item ks)) T H n Q → wpAny P .any ops (APost N c0 H0 w0 Q) fuel listed a w
  | 0, listed, hsz, hlen, hcl, c, w, a, T, H, n, hst, hr, hN, hd, h => by
    have hnil : rest ops listed = [] := List.length_eq_zero_iff.1 hlen
    rw [hnil] at h
    refine ⟨?_, .normal, c, T, H, n, h, trivial, hst, hr, hN, hd⟩
    rw [List.eq_nil_iff_forall_not_mem]
    intro i hi
    obtain ⟨h1, h2, _⟩ := (ready_eq hc listed hsz i).1 hi
    have : i ∈ rest ops listed := List.mem_filter.2 ⟨List.mem_range.2 h1, by simp only [h2]; rfl⟩
    rw [hnil] at this; simp at this
  | fuel + 1, listed, hsz, hlen, hcl, c, w, a, T, H, n, hst, hr, hN, hd, h => by
    have hmem : ∀ i, i ∈ rest ops listed ↔ i < ops.size ∧ listed.getD i true = false := fun i => by
      unfold rest; rw [List.mem_filter, List.mem_range]; simp
    have hsorted : (rest ops listed).Pairwise (· < ·) := List.Pairwise.filter _ List.pairwise_lt_range
    refine ⟨fun hnone => ?_, fun i hi => ?_⟩
    · -- the first that is left is ready
      exfalso
      cases hrest : rest ops listed with
      | nil => rw [hrest] at hlen; simp at hlen
      | cons i l =>
        obtain ⟨h1, h2⟩ := (hmem i).1 (by rw [hrest]; simp)
        have hready : i ∈ Region.ready .any ops listed := (ready_eq hc listed hsz i).2 ⟨h1, h2, fun o ho e he => by
          have hlt := hc.edges i o ho e he
          cases hle : listed.getD e true with
          | true => rfl
          | false =>
            have : e ∈ rest ops listed := (hmem e).2 ⟨by omega, hle⟩
            rw [hrest] at this hsorted
            rcases List.mem_cons.1 this with e1 | e1
            · omega
            · have := (List.pairwise_cons.1 hsorted).1 e e1; omega⟩
        rw [hnone] at hready; simp at hready
    · obtain ⟨h1, h2, h3⟩ := (ready_eq hc listed hsz i).1 hi
      have hin : i ∈ rest ops listed := (hmem i).2 ⟨h1, h2⟩
      obtain ⟨pre, post, hsplit⟩ := List.append_of_mem hin
      have hoi : ops[i]? = some ops[i] := Array.getElem?_eq_getElem h1
      have hks : ∀ p, p < ops.size → ks[p]? = some (ks.getD p .m) := fun p hp => by
        have : p < ks.length := by rw [hc.len]; exact hp
        simp [List.getD, List.getElem?_eq_getElem this]
      rw [hsplit] at hsorted
      have hsort2 := List.pairwise_append.1 hsorted
      have hpre : ∀ p ∈ pre, p < i ∧ p < ops.size ∧ listed.getD p true = false := fun p hp => by
        have hpr : p ∈ rest ops listed := by rw [hsplit]; simp [hp]
        exact ⟨hsort2.2.2 p hp i (by simp), (hmem p).1 hpr⟩
      have hnanc : ∀ p ∈ pre, isAnc (ancs [] ops.toList) p i = false := fun p hp => by
        cases hh : isAnc (ancs [] ops.toList) p i with
        | false => rfl
        | true =>
          have := anc_listed hc hcl i _ hoi (h3 _ hoi) p hh
          rw [(hpre p hp).2.2] at this; simp at this
      have hpairs : ∀ p ∈ pre, PairOK ops N p (ks.getD p .m) i (ks.getD i .m) ∧ ((ks.getD i .m).isW = true → ks.getD p .m = .m ∨ p ∈ (ks.getD i .m).inc) := fun p hp =>
        hc.pair p i _ _ (hpre p hp).1 (hks p (hpre p hp).2.1) (hks i h1) (hnanc p hp)
      rw [hsplit, List.map_append, List.map_cons] at h
      obtain ⟨I', hstep⟩ := front hpan i (ks.getD i .m) (pre.map (item ks)).length (pre.map (item ks)) (ks.getD i .m).inc (post.map (item ks)) T H n rfl
        (fun p hp => by obtain ⟨x, hx, rfl⟩ := List.mem_map.1 hp; exact fun y hy => hy)
        (fun p hp => by obtain ⟨x, hx, rfl⟩ := List.mem_map.1 hp; exact (hpairs x hx).1)
        (fun hw p hp => by obtain ⟨x, hx, rfl⟩ := List.mem_map.1 hp; exact (hpairs x hx).2 hw)
        (by
          have e : (pre.map (item ks)).map (·.1) = pre := by simp [item, Function.comp_def]
          rw [e]; exact hsort2.1)
        (fun hw q hq p hp hne => by
          obtain ⟨x, hx, rfl⟩ := List.mem_map.1 hp
          simp only [item] at hne ⊢
          obtain ⟨hqi, hqa⟩ := hc.inc i _ (hks i h1) q hq
          cases hh : isAnc (ancs [] ops.toList) x q with
          | false => exact .inr (hqa x (hpre x hx).1 hne hh)
          | true =>
            left
            have hqs : q < ops.size := by omega
            have hoq : ops[q]? = some ops[q] := Array.getElem?_eq_getElem hqs
            have hql : listed.getD q true = false := by
              cases hl : listed.getD q true with
              | false => rfl
              | true =>
                have := anc_listed hc hcl q _ hoq (hcl q _ hoq hl) x hh
                rw [(hpre x hx).2.2] at this; simp at this
            have hqr : q ∈ rest ops listed := (hmem q).2 ⟨hqs, hql⟩
            have hqpre : q ∈ pre := by
              rw [hsplit] at hqr
              rcases List.mem_append.1 hqr with h | h
              · exact h
              · rcases List.mem_cons.1 h with h | h
                · omega
                · have := (List.pairwise_cons.1 hsort2.2.1).1 q h; omega
            refine ⟨?_, List.mem_map.2 ⟨item ks q, List.mem_map.2 ⟨q, hqpre, rfl⟩, rfl⟩⟩
            have : ∀ (q : Nat) (o : Oper), ops[q]? = some o → ∀ x, isAnc (ancs [] ops.toList) x q = true → x < q := by
              intro q
              induction q using Nat.strongRecOn with
              | _ q ih =>
                intro o ho x hx
                obtain ⟨e, he, h⟩ := ancs_spec ops.toList [] q o (by simpa using ho) (by simpa using hc.edges q o ho) x (by simpa [isAnc] using hx)
                have hlt := hc.edges q o ho e he
                rcases h with rfl | h
                · exact hlt
                · have hqs' : q < ops.size := by
                    rcases Nat.lt_or_ge q ops.size with h | h
                    · exact h
                    · rw [Array.getElem?_eq_none h] at ho; simp at ho
                  have := ih e hlt _ (Array.getElem?_eq_getElem (show e < ops.size by omega)) x (by simpa [isAnc] using h)
                  omega
            exact this q _ hoq x hh) h
      refine dstep_sound hstep hst hr hN hd fun T' c' H' n' a' w' hK hst' hr' hN' hd' => ?_
      have hget : ∀ k, (listed.setIfInBounds i true).getD k true = if k = i then true else listed.getD k true := fun k => by
        simp only [Array.getD_eq_getD_getElem?, Array.getElem?_setIfInBounds]
        by_cases e : k = i
        · subst e; simp [hsz, h1]
        · simp [Ne.symm e, e]
      have hrest' : rest ops (listed.setIfInBounds i true) = pre ++ post := by
        have e1 : rest ops (listed.setIfInBounds i true) = (rest ops listed).filter (· != i) := by
          unfold rest
          rw [List.filter_filter]
          apply List.filter_congr
          intro k _
          rw [hget]
          by_cases e : k = i <;> simp [e]
        rw [e1, hsplit, List.filter_append, List.filter_cons]
        have ep : pre.filter (· != i) = pre := List.filter_eq_self.2 fun p hp => by have := (hpre p hp).1; simp; omega
        have eq : post.filter (· != i) = post := List.filter_eq_self.2 fun p hp => by have := (List.pairwise_cons.1 hsort2.2.1).1 p hp; simp; omega
        simp [ep, eq]
      have hlen' : (rest ops (listed.setIfInBounds i true)).length = fuel := by
        rw [hrest']
        rw [hsplit] at hlen
        simp at hlen ⊢; omega
      refine drun_any hc hpan fuel _ (by simp [hsz]) hlen' (fun k o ho hk e he => ?_) c' w' a' T' H' n' hst' hr' hN' hd' ?_
      · rw [hget] at hk ⊢
        split
        · rfl
        · by_cases ek : k = i
          · subst ek
            exact h3 o ho e he
          · rw [if_neg ek] at hk
            exact hcl k o ho hk e he
      · rw [hrest', List.map_append]
        exact hK
theorem awp_draw0 {id : Nat} {l : List Oper} {T : Nat → AV} {H : Heap} {n : Nat} {Q : AEx → (Nat → AV) → Heap → Nat → Prop} (hm : P.follows .mixedOrders = true) (z : TypeId → AV) (ks : List DK)
    (hc : dcheck l N ks = true) (hpan : ∀ p T T' H n, Q (.pan p) T H n → Q (.pan p) T' H n)
    (h : drun P z N l.toArray ((List.range l.length).map (item ks)) T H n Q) :
    awp P N (.region id l.toArray true) T H n Q := by
  intro c w a hs hr hN hd
  refine wp_region_any hm ?_
  have hst : Step c H w c H n { w with drawn := w.drawn + 1 } := Step.drew hs
  have hrest : rest l.toArray (Array.replicate l.toArray.size false) = List.range l.length := by
    unfold rest
    rw [List.filter_eq_self.2]
    · simp
    · intro i hi
      have hi : i < l.length := by simpa using hi
      simp [hi]
  refine drun_any (P := P) (z := z) (Q := Q) (ops := l.toArray) (dcheck_spec (ops := l.toArray) (by simpa using hc)) hpan l.toArray.size (Array.replicate l.toArray.size false) (by simp) (by rw [hrest]; simp) ?_ c _ a T H n hst hr hN hd ?_
  · intro i o ho hi
    have : i < l.length := by
      rcases Nat.lt_or_ge i l.length with h | h
      · exact h
      · rw [List.getElem?_toArray, List.getElem?_eq_none h] at ho; simp at ho
    simp [this] at hi
  · rw [hrest]; exact h
theorem awp_draw {id : Nat} {l : List Oper} {y : Code} {T : Nat → AV} {H : Heap} {n : Nat} {Q : AEx → (Nat → AV) → Heap → Nat → Prop} (hm : P.follows .mixedOrders = true) (z : TypeId → AV) (live : List Nat) (ks : List DK)
    (hc : dcheck l N ks = true) (hpan : ∀ p T T' H n, Q (.pan p) T H n → Q (.pan p) T' H n)
    (h : ∀ K : (Nat → AV) → Heap → Nat → Prop, (∀ T H n, awp P N y T H n Q → K T H n) → drun P z N l.toArray ((List.range l.length).map (item ks)) T H n (AThen (fun T' H' n' => K (tsel live T') H' n') Q)) :
    awp P N (.seq (.region id l.toArray true) y) T H n Q := by
  refine awp_seq (Q := Q) ?_
  intro c w a hs hr hN hd
  refine wp_region_any hm ?_
  have hst : Step c H w c H n { w with drawn := w.drawn + 1 } := Step.drew hs
  have hrest : rest l.toArray (Array.replicate l.toArray.size false) = List.range l.length := by
    unfold rest
    rw [List.filter_eq_self.2]
    · simp
    · intro i hi
      have hi : i < l.length := by simpa using hi
      simp [hi]
  refine drun_any (P := P) (z := z) (Q := AThen (fun T H n => awp P N y T H n Q) Q) (ops := l.toArray) (dcheck_spec (ops := l.toArray) (by simpa using hc)) (fun p T T' H n hq => hpan p T T' H n hq) l.toArray.size (Array.replicate l.toArray.size false) (by simp) (by rw [hrest]; simp) ?_ c _ a T H n hst hr hN hd ?_
  · intro i o ho hi
    have : i < l.length := by
      rcases Nat.lt_or_ge i l.length with h | h
      · exact h
      · rw [List.getElem?_toArray, List.getElem?_eq_none h] at ho; simp at ho
    simp [this] at hi
  · rw [hrest]
    have := h (fun T' H' n' => awp P N y T' H' n' Q) (fun _ _ _ h => h)
    have mono : ∀ (its : List (Nat × DK × List Nat)) (T : Nat → AV) (H : Heap) (n : Nat), drun P z N l.toArray its T H n (AThen (fun T' H' n' => awp P N y (tsel live T') H' n' Q) Q) →
        drun P z N l.toArray its T H n (AThen (fun T' H' n' => awp P N y T' H' n' Q) Q) := by
      intro its
      induction its with
      | nil => intro T H n hh; exact awp_sel live hh
      | cons it its ih => intro T H n hh; obtain ⟨i, k, I⟩ := it; exact dstep_mono2 (fun T H n h => ih T H n h) (fun p T H n h => h) hh
    exact mono _ _ _ _ this
end
end Go.Sx
namespace Go.Sx
open Go
section
variable (P : Program) (z : TypeId → AV) (N : Nat) (ops : Array Oper) (T : Nat → AV) (H : Heap) (n : Nat) (Q : AEx → (Nat → AV) → Heap → Nat → Prop) (dst : Option Tmp) (ty : TypeId) (pos : String) (after : Array Edge) (os : List Oper) (j : Nat) (bb : Bool)
theorem er_move (x : Operand) : erun P z N ops (⟨dst, .move x, ty, pos, after, none⟩ :: os) T H n Q = (dOK N dst ∧ cont (opQ P z H true T (.move x)) fun r => erun P z N ops os (tput T dst r) H n Q) := rfl
theorem erg_move (x : Operand) : erun P z N ops (⟨dst, .move x, ty, pos, after, some (j, bb)⟩ :: os) T H n Q = (dOK N dst ∧ contB ((gtmp ops j).bind fun t => gval (T t) bb) fun g => contG g (opQ P z H g T (.move x)) fun r => erun P z N ops os (tput T dst r) H n Q) := rfl
theorem er_assign (x : Operand) : erun P z N ops (⟨dst, .assign x, ty, pos, after, none⟩ :: os) T H n Q = (dOK N dst ∧ cont (opQ P z H true T (.assign x)) fun r => erun P z N ops os (tput T dst r) H n Q) := rfl
theorem erg_assign (x : Operand) : erun P z N ops (⟨dst, .assign x, ty, pos, after, some (j, bb)⟩ :: os) T H n Q = (dOK N dst ∧ contB ((gtmp ops j).bind fun t => gval (T t) bb) fun g => contG g (opQ P z H g T (.assign x)) fun r => erun P z N ops os (tput T dst r) H n Q) := rfl
theorem er_pick (c a b : Operand) : erun P z N ops (⟨dst, .pick c a b, ty, pos, after, none⟩ :: os) T H n Q = (dOK N dst ∧ cont (opQ P z H true T (.pick c a b)) fun r => erun P z N ops os (tput T dst r) H n Q) := rfl
theorem erg_pick (c a b : Operand) : erun P z N ops (⟨dst, .pick c a b, ty, pos, after, some (j, bb)⟩ :: os) T H n Q = (dOK N dst ∧ contB ((gtmp ops j).bind fun t => gval (T t) bb) fun g => contG g (opQ P z H g T (.pick c a b)) fun r => erun P z N ops os (tput T dst r) H n Q) := rfl
theorem er_fieldAddr (t : TypeId) (x : Operand) (f : Nat) : erun P z N ops (⟨dst, .fieldAddr t x f, ty, pos, after, none⟩ :: os) T H n Q = (dOK N dst ∧ cont (opQ P z H true T (.fieldAddr t x f)) fun r => erun P z N ops os (tput T dst r) H n Q) := rfl
theorem erg_fieldAddr (t : TypeId) (x : Operand) (f : Nat) : erun P z N ops (⟨dst, .fieldAddr t x f, ty, pos, after, some (j, bb)⟩ :: os) T H n Q = (dOK N dst ∧ contB ((gtmp ops j).bind fun t => gval (T t) bb) fun g => contG g (opQ P z H g T (.fieldAddr t x f)) fun r => erun P z N ops os (tput T dst r) H n Q) := rfl
theorem er_load (t : TypeId) (x : Operand) : erun P z N ops (⟨dst, .load t x, ty, pos, after, none⟩ :: os) T H n Q = (dOK N dst ∧ cont (opQ P z H true T (.load t x)) fun r => erun P z N ops os (tput T dst r) H n Q) := rfl
theorem erg_load (t : TypeId) (x : Operand) : erun P z N ops (⟨dst, .load t x, ty, pos, after, some (j, bb)⟩ :: os) T H n Q = (dOK N dst ∧ contB ((gtmp ops j).bind fun t => gval (T t) bb) fun g => contG g (opQ P z H g T (.load t x)) fun r => erun P z N ops os (tput T dst r) H n Q) := rfl
theorem er_indexAddr (t : TypeId) (x i : Operand) : erun P z N ops (⟨dst, .indexAddr t x i, ty, pos, after, none⟩ :: os) T H n Q = (dOK N dst ∧ cont (opQ P z H true T (.indexAddr t x i)) fun r => erun P z N ops os (tput T dst r) H n Q) := rfl
theorem erg_indexAddr (t : TypeId) (x i : Operand) : erun P z N ops (⟨dst, .indexAddr t x i, ty, pos, after, some (j, bb)⟩ :: os) T H n Q = (dOK N dst ∧ contB ((gtmp ops j).bind fun t => gval (T t) bb) fun g => contG g (opQ P z H g T (.indexAddr t x i)) fun r => erun P z N ops os (tput T dst r) H n Q) := rfl
theorem er_index (t : TypeId) (x i : Operand) : erun P z N ops (⟨dst, .index t x i, ty, pos, after, none⟩ :: os) T H n Q = (dOK N dst ∧ cont (opQ P z H true T (.index t x i)) fun r => erun P z N ops os (tput T dst r) H n Q) := rfl
theorem erg_index (t : TypeId) (x i : Operand) : erun P z N ops (⟨dst, .index t x i, ty, pos, after, some (j, bb)⟩ :: os) T H n Q = (dOK N dst ∧ contB ((gtmp ops j).bind fun t => gval (T t) bb) fun g => contG g (opQ P z H g T (.index t x i)) fun r => erun P z N ops os (tput T dst r) H n Q) := rfl
theorem er_field (t : TypeId) (x : Operand) (f : Nat) : erun P z N ops (⟨dst, .field t x f, ty, pos, after, none⟩ :: os) T H n Q = (dOK N dst ∧ cont (opQ P z H true T (.field t x f)) fun r => erun P z N ops os (tput T dst r) H n Q) := rfl
theorem erg_field (t : TypeId) (x : Operand) (f : Nat) : erun P z N ops (⟨dst, .field t x f, ty, pos, after, some (j, bb)⟩ :: os) T H n Q = (dOK N dst ∧ contB ((gtmp ops j).bind fun t => gval (T t) bb) fun g => contG g (opQ P z H g T (.field t x f)) fun r => erun P z N ops os (tput T dst r) H n Q) := rfl
theorem er_binOp (o : BinOp) (t : TypeId) (x y : Operand) (t' : TypeId) : erun P z N ops (⟨dst, .binOp o t x y t', ty, pos, after, none⟩ :: os) T H n Q = (dOK N dst ∧ cont (opQ P z H true T (.binOp o t x y t')) fun r => erun P z N ops os (tput T dst r) H n Q) := rfl
theorem erg_binOp (o : BinOp) (t : TypeId) (x y : Operand) (t' : TypeId) : erun P z N ops (⟨dst, .binOp o t x y t', ty, pos, after, some (j, bb)⟩ :: os) T H n Q = (dOK N dst ∧ contB ((gtmp ops j).bind fun t => gval (T t) bb) fun g => contG g (opQ P z H g T (.binOp o t x y t')) fun r => erun P z N ops os (tput T dst r) H n Q) := rfl
theorem er_unOp (o : UnOp) (t : TypeId) (x : Operand) : erun P z N ops (⟨dst, .unOp o t x, ty, pos, after, none⟩ :: os) T H n Q = (dOK N dst ∧ cont (opQ P z H true T (.unOp o t x)) fun r => erun P z N ops os (tput T dst r) H n Q) := rfl
theorem erg_unOp (o : UnOp) (t : TypeId) (x : Operand) : erun P z N ops (⟨dst, .unOp o t x, ty, pos, after, some (j, bb)⟩ :: os) T H n Q = (dOK N dst ∧ contB ((gtmp ops j).bind fun t => gval (T t) bb) fun g => contG g (opQ P z H g T (.unOp o t x)) fun r => erun P z N ops os (tput T dst r) H n Q) := rfl
theorem er_nilCheck (x : Operand) : erun P z N ops (⟨dst, .nilCheck x, ty, pos, after, none⟩ :: os) T H n Q = (dOK N dst ∧ cont (opQ P z H true T (.nilCheck x)) fun r => erun P z N ops os (tput T dst r) H n Q) := rfl
theorem erg_nilCheck (x : Operand) : erun P z N ops (⟨dst, .nilCheck x, ty, pos, after, some (j, bb)⟩ :: os) T H n Q = (dOK N dst ∧ contB ((gtmp ops j).bind fun t => gval (T t) bb) fun g => contG g (opQ P z H g T (.nilCheck x)) fun r => erun P z N ops os (tput T dst r) H n Q) := rfl
theorem er_extract (x : Operand) (i : Nat) : erun P z N ops (⟨dst, .extract x i, ty, pos, after, none⟩ :: os) T H n Q = (dOK N dst ∧ cont (opQ P z H true T (.extract x i)) fun r => erun P z N ops os (tput T dst r) H n Q) := rfl
theorem erg_extract (x : Operand) (i : Nat) : erun P z N ops (⟨dst, .extract x i, ty, pos, after, some (j, bb)⟩ :: os) T H n Q = (dOK N dst ∧ contB ((gtmp ops j).bind fun t => gval (T t) bb) fun g => contG g (opQ P z H g T (.extract x i)) fun r => erun P z N ops os (tput T dst r) H n Q) := rfl
theorem er_convert (s d : TypeId) (x : Operand) : erun P z N ops (⟨dst, .convert s d x, ty, pos, after, none⟩ :: os) T H n Q = (dOK N dst ∧ if s = d then contW (wCv P z H n T s d x (evO T x)) fun r H' n' => erun P z N ops os (tput T dst r) H' n' Q else cont (opQ P z H true T (.convert s d x)) fun r => erun P z N ops os (tput T dst r) H n Q) := by
  by_cases h : s = d
  · rw [if_pos h, erun_w (by simp [opClass, h])]; rfl
  · rw [if_neg h, erun_q (by simp [opClass, h])]
theorem erg_convert (s d : TypeId) (x : Operand) (h : s ≠ d) : erun P z N ops (⟨dst, .convert s d x, ty, pos, after, some (j, bb)⟩ :: os) T H n Q = (dOK N dst ∧ contB ((gtmp ops j).bind fun t => gval (T t) bb) fun g => contG g (opQ P z H g T (.convert s d x)) fun r => erun P z N ops os (tput T dst r) H n Q) := erun_gq (by simp [opClass, h])
theorem er_makeFunc (f : Fn) (a b : Array Operand) : erun P z N ops (⟨dst, .makeFunc f a b, ty, pos, after, none⟩ :: os) T H n Q = (dOK N dst ∧ cont (opQ P z H true T (.makeFunc f a b)) fun r => erun P z N ops os (tput T dst r) H n Q) := rfl
theorem erg_makeFunc (f : Fn) (a b : Array Operand) : erun P z N ops (⟨dst, .makeFunc f a b, ty, pos, after, some (j, bb)⟩ :: os) T H n Q = (dOK N dst ∧ contB ((gtmp ops j).bind fun t => gval (T t) bb) fun g => contG g (opQ P z H g T (.makeFunc f a b)) fun r => erun P z N ops os (tput T dst r) H n Q) := rfl
theorem er_slice (t : TypeId) (x : Operand) (l h m : Option Operand) : erun P z N ops (⟨dst, .slice t x l h m, ty, pos, after, none⟩ :: os) T H n Q = (dOK N dst ∧ cont (opQ P z H true T (.slice t x l h m)) fun r => erun P z N ops os (tput T dst r) H n Q) := rfl
theorem erg_slice (t : TypeId) (x : Operand) (l h m : Option Operand) : erun P z N ops (⟨dst, .slice t x l h m, ty, pos, after, some (j, bb)⟩ :: os) T H n Q = (dOK N dst ∧ contB ((gtmp ops j).bind fun t => gval (T t) bb) fun g => contG g (opQ P z H g T (.slice t x l h m)) fun r => erun P z N ops os (tput T dst r) H n Q) := rfl
theorem er_build (t : TypeId) (p : Array (Nat × Operand)) : erun P z N ops (⟨dst, .build t p, ty, pos, after, none⟩ :: os) T H n Q = (dOK N dst ∧ cont (opQ P z H true T (.build t p)) fun r => erun P z N ops os (tput T dst r) H n Q) := rfl
theorem erg_build (t : TypeId) (p : Array (Nat × Operand)) : erun P z N ops (⟨dst, .build t p, ty, pos, after, some (j, bb)⟩ :: os) T H n Q = (dOK N dst ∧ contB ((gtmp ops j).bind fun t => gval (T t) bb) fun g => contG g (opQ P z H g T (.build t p)) fun r => erun P z N ops os (tput T dst r) H n Q) := rfl
theorem er_buildSlice (t : TypeId) (k : Nat) (p : Array (Nat × Operand)) : erun P z N ops (⟨dst, .buildSlice t k p, ty, pos, after, none⟩ :: os) T H n Q = (dOK N dst ∧ contW (opW P z H n T (.buildSlice t k p)) fun r H' n' => erun P z N ops os (tput T dst r) H' n' Q) := rfl
theorem er_makeMap (t : TypeId) (r : Option Operand) : erun P z N ops (⟨dst, .makeMap t r, ty, pos, after, none⟩ :: os) T H n Q = (dOK N dst ∧ contW (opW P z H n T (.makeMap t r)) fun r H' n' => erun P z N ops os (tput T dst r) H' n' Q) := rfl
theorem er_mapUpdate (t : TypeId) (m k v : Operand) : erun P z N ops (⟨dst, .mapUpdate t m k v, ty, pos, after, none⟩ :: os) T H n Q = (dOK N dst ∧ contW (opW P z H n T (.mapUpdate t m k v)) fun r H' n' => erun P z N ops os (tput T dst r) H' n' Q) := rfl
theorem er_lookup (t : TypeId) (x i : Operand) (b : Bool) : erun P z N ops (⟨dst, .lookup t x i b, ty, pos, after, none⟩ :: os) T H n Q = (dOK N dst ∧ cont (opQ P z H true T (.lookup t x i b)) fun r => erun P z N ops os (tput T dst r) H n Q) := rfl
theorem erg_lookup (t : TypeId) (x i : Operand) (b : Bool) : erun P z N ops (⟨dst, .lookup t x i b, ty, pos, after, some (j, bb)⟩ :: os) T H n Q = (dOK N dst ∧ contB ((gtmp ops j).bind fun t => gval (T t) bb) fun g => contG g (opQ P z H g T (.lookup t x i b)) fun r => erun P z N ops os (tput T dst r) H n Q) := rfl
theorem er_store (t : TypeId) (x v : Operand) : erun P z N ops (⟨dst, .store t x v, ty, pos, after, none⟩ :: os) T H n Q = (dOK N dst ∧ contW (opW P z H n T (.store t x v)) fun r H' n' => erun P z N ops os (tput T dst r) H' n' Q) := rfl
theorem er_box (t : TypeId) (x : Operand) : erun P z N ops (⟨dst, .box t x, ty, pos, after, none⟩ :: os) T H n Q = (dOK N dst ∧ contW (opW P z H n T (.box t x)) fun r H' n' => erun P z N ops os (tput T dst r) H' n' Q) := rfl
theorem er_alloc (t : TypeId) : erun P z N ops (⟨dst, .alloc t, ty, pos, after, none⟩ :: os) T H n Q = (dOK N dst ∧ contW (opW P z H n T (.alloc t)) fun r H' n' => erun P z N ops os (tput T dst r) H' n' Q) := rfl
theorem er_len (args : Array Operand) (ts : Array TypeId) : erun P z N ops (⟨dst, .call ⟨.builtin .len, args, ts⟩, ty, pos, after, none⟩ :: os) T H n Q = (dOK N dst ∧ cont (opQ P z H true T (.call ⟨.builtin .len, args, ts⟩)) fun r => erun P z N ops os (tput T dst r) H n Q) := rfl
theorem er_max (args : Array Operand) (ts : Array TypeId) : erun P z N ops (⟨dst, .call ⟨.builtin .max, args, ts⟩, ty, pos, after, none⟩ :: os) T H n Q = (dOK N dst ∧ cont (opQ P z H true T (.call ⟨.builtin .max, args, ts⟩)) fun r => erun P z N ops os (tput T dst r) H n Q) := rfl
theorem er_min (args : Array Operand) (ts : Array TypeId) : erun P z N ops (⟨dst, .call ⟨.builtin .min, args, ts⟩, ty, pos, after, none⟩ :: os) T H n Q = (dOK N dst ∧ cont (opQ P z H true T (.call ⟨.builtin .min, args, ts⟩)) fun r => erun P z N ops os (tput T dst r) H n Q) := rfl
theorem erg_len (args : Array Operand) (ts : Array TypeId) : erun P z N ops (⟨dst, .call ⟨.builtin .len, args, ts⟩, ty, pos, after, some (j, bb)⟩ :: os) T H n Q = (dOK N dst ∧ contB ((gtmp ops j).bind fun t => gval (T t) bb) fun g => contG g (opQ P z H g T (.call ⟨.builtin .len, args, ts⟩)) fun r => erun P z N ops os (tput T dst r) H n Q) := rfl
theorem er_append (args : Array Operand) (ts : Array TypeId) : erun P z N ops (⟨dst, .call ⟨.builtin .append, args, ts⟩, ty, pos, after, none⟩ :: os) T H n Q = (dOK N dst ∧ contW (opW P z H n T (.call ⟨.builtin .append, args, ts⟩)) fun r H' n' => erun P z N ops os (tput T dst r) H' n' Q) := rfl
end
theorem fld_agg (fs : List AV) (i : Nat) : (AV.agg fs).fld i = nth fs i := rfl
theorem nth_zero (a : AV) (l : List AV) : nth (a :: l) 0 = a := rfl
theorem nth_succ (a : AV) (l : List AV) (i : Nat) : nth (a :: l) (i + 1) = nth l i := by simp [nth]
theorem nf_agg (fs : List AV) : (AV.agg fs).nf = fs.length := rfl
theorem offs_agg (fs : List AV) (i : Nat) : (AV.agg fs).offs i = AV.szs (fs.take i) := rfl
theorem setf_agg (fs : List AV) (i : Nat) (v : AV) : (AV.agg fs).setf i v = .agg (fs.set i v) := rfl
theorem Heap.put_get (H : Heap) (k j : Nat) (o : Option AObj) : H.put k o j = if j = k then o else H j := rfl
attribute [go_sem] wCv.eq_1 wConv.eq_1 wConvO.eq_1
attribute [go_sem] er_move erg_move er_assign erg_assign er_pick erg_pick er_fieldAddr erg_fieldAddr er_load erg_load er_indexAddr erg_indexAddr er_index erg_index er_field erg_field er_binOp erg_binOp er_unOp erg_unOp er_nilCheck erg_nilCheck er_extract erg_extract er_len er_max er_min erg_len er_append er_convert erg_convert er_makeFunc erg_makeFunc er_slice erg_slice er_build erg_build er_buildSlice er_makeMap er_mapUpdate er_lookup erg_lookup er_store er_box er_alloc
attribute [go_sem] erun.eq_1 erun_c erun_gc dOK.eq_1 dOK.eq_2
attribute [go_sem] opQ.eq_1 opQ.eq_2 opQ.eq_3 opQ.eq_4 opQ.eq_5 opQ.eq_6 opQ.eq_7 opQ.eq_8 opQ.eq_9 opQ.eq_10 opQ_len opQ.eq_12 opQ.eq_13 opQ.eq_14 opQ.eq_15 opQ.eq_16 opQ.eq_17 opQ.eq_18 opQ.eq_19 qSlice3.eq_1 optI.eq_1 optI.eq_2 qConvertH.eq_1 qConvertH.eq_2 qConvertH.eq_3 qConvertH.eq_4 qConvertH.eq_5 qConvO.eq_1 qConvert.eq_1 qConvert.eq_2 qConvert.eq_3 qConvert.eq_4 qField.eq_1 qIndex.eq_1 qIndex.eq_2 qSlice.eq_1 qSlice.eq_2 qSlice.eq_3 qSlice.eq_4 qSlO.eq_1 qBuild qBuildSlice qMakeFunc buildAV.eq_1 buildAV.eq_2 fldsOK.eq_1 fldsOK.eq_2 partsOK.eq_1 partsOK.eq_2
attribute [go_sem] opW.eq_1 opW.eq_2 opW.eq_3 opW.eq_4 opW.eq_5 opW.eq_6 opW.eq_7 wBSl wMakeMap.eq_1 wMakeMap.eq_2 wMapUp.eq_1 wMapUpO.eq_1 wMapUpM.eq_1 qLookup.eq_1 qLookup.eq_2 qLookO.eq_1 qLookM.eq_1 wAppL.eq_1 wAppend wApp2.eq_1 wApp2.eq_2 wAppA.eq_1 slcO.eq_1 slcO.eq_2 slcO.eq_3 slcO.slcA.eq_1
attribute [go_sem] strip.eq_1 strip.eq_2 evO.eq_1 evO.eq_2 evO.eq_3 evO.eq_4 cont_some contG_some contG_none contB_some contW_some contL_some
attribute [go_sem] ofVal.eq_1 ofVal.eq_2 ofVal.eq_3 ofVal.eq_4 ofVal.eq_5 ofVal.eq_6 ofVal.eq_7 ofVal.eq_8
attribute [go_sem] gval.eq_1 gval.eq_2 gtmp_eq gtmpL.eq_1 gtmpL.eq_2 gtmpL.eq_3 tput_tl tput_none tl.eq_1 tl.eq_2 tsel_eq AThen.eq_1 AThen.eq_2 AInBlock.eq_1 AInBlock.eq_2 argL.eq_1 argL.eq_2
attribute [go_sem] Fin.eq_1 Fin.eq_2 Fin.eq_3 Fin.eq_4 resC.eq_1 resC.eq_2 resC.eq_3 resT.eq_1 resL.eq_1 resV.eq_1 resV.eq_2
attribute [go_sem] qFieldAddr qFA.eq_1 qFA.eq_2 qLoad.eq_1 qLoad.eq_2 qLoadO.eq_1 qIndexAddr.eq_1 qIndexAddr.eq_2 qIdxO.eq_1
attribute [go_sem] qBin.eq_1 qBin.eq_2 qBin.eq_3 qBin.eq_4 qBin.eq_5 qBin.eq_6 qBin.eq_7 qBin.eq_8 qBin.eq_9 qBin.eq_10 qBin.eq_11 qBin.eq_12 qBin.eq_13 qBin.eq_14 qBin.eq_15 qBin.eq_16 qBin.eq_17 qBin.eq_18 qBin.eq_19 qBin.eq_20 qBin.eq_21 qBin.eq_22 qBin.eq_23 qBin.eq_24 qBin.eq_25 qBin.eq_26 qBin.eq_27 qBin.eq_28 qBin.eq_29 qEqNums.eq_1 numsL.eq_1 numsL.eq_2
attribute [go_sem] qUn.eq_1 qUn.eq_2 qNil.eq_1 qNil.eq_2 qNil.eq_3 qExtract.eq_1 qLen.eq_1 qLen.eq_2 qLen.eq_3 qLen.eq_4 qCall.eq_1 qCall.eq_2 qCall.eq_3 qPick.eq_1 qPick.eq_2 qPick.eq_3 qPick.eq_4 qPick.eq_5
attribute [go_sem] wStore.eq_1 wStoreO.eq_1 wBox wAlloc tyOK
attribute [go_sem] fld_agg nth_zero nth_succ nf_agg offs_agg setf_agg AV.at.eq_1 AV.at.eq_2 AV.pathOff.eq_1 AV.pathOff.eq_2 AV.pathOK.eq_1 AV.pathOK.eq_2 AV.upd.eq_1 AV.upd.eq_2 AV.sz.eq_1 AV.sz.eq_2 AV.szs.eq_1 AV.szs.eq_2 AV.isAgg.eq_1 AV.isAgg.eq_2 AV.memOK.eq_5 Heap.put_get
end Go.Sx
namespace Go.Sx
open Go
def opAt : List Oper → Nat → Option Oper
  | [], _ => none
  | o :: _, 0 => some o
  | _ :: l, k + 1 => opAt l k
theorem opAt_eq (l : List Oper) (k : Nat) : opAt l k = l[k]? := by
  induction l generalizing k with
  | nil => simp [opAt]
  | cons o l ih => cases k <;> simp [opAt, ih]
def sameC (P : Program) (z : TypeId → AV) (T : Nat → AV) (H H' : Heap) : Option Oper → Prop
  | none => True
  | some ⟨dst, .call ⟨.value fo, args, _⟩, _, _, _, none⟩ => ∀ d, dst = some d → CallQ P (strip true (evO T fo)) (args.toList.map fun x => strip true (evO T x)) H' (T d)
  | some ⟨_, .call ⟨.value _, _, _⟩, _, _, _, some _⟩ => False
  | some ⟨_, op, _, _, _, _⟩ => ∀ g, opQ P z H' g T op = opQ P z H g T op
def sames (P : Program) (z : TypeId → AV) (l : List Oper) (T : Nat → AV) (H H' : Heap) : List Nat → Prop
  | [] => True
  | q :: qs => sameC P z T H H' (opAt l q) ∧ sames P z l T H H' qs
theorem sameC_one {P : Program} {z : TypeId → AV} {l : List Oper} {T : Nat → AV} {H H' : Heap} {q : Nat} (h : sameC P z T H H' (opAt l q)) : sameOne P z l.toArray q T H H' := by
  rw [opAt_eq] at h
  unfold sameOne
  simp only [List.getElem?_toArray]
  cases ho : l[q]? with
  | none => trivial
  | some o =>
    rw [ho] at h
    obtain ⟨dst, op, ty, pos, after, guard⟩ := o
    unfold sameC at h
    split at h
    · rename_i heq; simp at heq
    · rename_i heq
      simp only [Option.some.injEq, Oper.mk.injEq] at heq
      obtain ⟨rfl, rfl, rfl, rfl, rfl, rfl⟩ := heq
      exact h
    · exact h.elim
    · rename_i x1 x2 heq
      simp only [Option.some.injEq, Oper.mk.injEq] at heq
      obtain ⟨rfl, rfl, rfl, rfl, rfl, rfl⟩ := heq
      dsimp only
      split
      · rename_i fo args ts; exact (x1 _ _ _ rfl rfl).elim
      · rename_i fo args ts jb; exact (x2 _ _ _ _ rfl rfl).elim
      · intro g _; exact h g
theorem sames_all {P : Program} {z : TypeId → AV} {l : List Oper} {T : Nat → AV} {H H' : Heap} : ∀ {qs : List Nat}, sames P z l T H H' qs → ∀ q ∈ qs, sameOne P z l.toArray q T H H'
  | [], _, q, hq => by simp at hq
  | x :: qs, h, q, hq => by
    rcases List.mem_cons.1 hq with rfl | hq
    · exact sameC_one h.1
    · exact sames_all h.2 q hq
def callQG (P : Program) (g : Bool) (fv : AV) (args : List AV) (H : Heap) (k : AV → Prop) : Prop := ∃ r, (g = true → CallQ P fv args H r) ∧ k r
@[congr] theorem callQG_congr {P : Program} {g g' : Bool} {fv fv' : AV} {args args' : List AV} {H H' : Heap} {k : AV → Prop} (h0 : g = g') (h1 : fv = fv') (h2 : args = args') (h3 : H = H') :
    callQG P g fv args H k = callQG P g' fv' args' H' k := by rw [h0, h1, h2, h3]
theorem callQG_use {P : Program} {g : Bool} {f : FuncId} {fn : Func} {first captured args args' : List AV} {H : Heap} {k : AV → Prop} {r : AV}
    (hf : P.funcs[f]? = some fn) (hb : fn.body.isSome = true) (hn : (fn.name == "runtime.NumGoroutine") = false) (ha : first ++ args ++ captured = args') (h : g = true → ∀ n, Ret P f args' H n r H n) (hk : k r) : callQG P g (.fn (.func f) first captured) args H k :=
  ⟨r, fun hg n => callK_use hf hb hn ha (h hg n) ⟨rfl, rfl, rfl⟩, hk⟩
def dr (P : Program) (z : TypeId → AV) (N : Nat) (l : List Oper) : List (Oper × DK) → (Nat → AV) → Heap → Nat → (AEx → (Nat → AV) → Heap → Nat → Prop) → Prop
  | [], T, H, n, Q => Q .normal T H n
  | (⟨dst, op, _, _, _, none⟩, k) :: os, T, H, n, Q => dOK N dst ∧ match k with
    | .m => match op with
      | .move x => dr P z N l os (tput T dst (strip true (evO T x))) H n Q
      | _ => False
    | .q => cont (opQ P z H true T op) fun r => dr P z N l os (tput T dst r) H n Q
    | .c => match op with
      | .call ⟨.value fo, args, _⟩ => callQG P true (strip true (evO T fo)) (args.toList.map fun x => strip true (evO T x)) H fun r => dr P z N l os (tput T dst r) H n Q
      | _ => False
    | .w inc => match op with
      | .call ⟨.value fo, args, _⟩ => callK P (evO T fo) (args.toList.map (evO T)) H n (fun r H' n' => sames P z l T H H' inc ∧ dr P z N l os (tput T dst r) H' n' Q) (fun p H' n' => Q (.pan p) T H' n')
      | op => contW (opW P z H n T op) fun r H' n' => sames P z l T H H' inc ∧ dr P z N l os (tput T dst r) H' n' Q
  | (⟨dst, op, _, _, _, some (j, b)⟩, k) :: os, T, H, n, Q => dOK N dst ∧ contB ((gtmp l.toArray j).bind fun t => gval (T t) b) fun g => match k with
    | .m => match op with
      | .move x => dr P z N l os (tput T dst (.opt g (strip g (evO T x)))) H n Q
      | _ => False
    | .q => contG g (opQ P z H g T op) fun r => dr P z N l os (tput T dst r) H n Q
    | .c => match op with
      | .call ⟨.value fo, args, _⟩ => callQG P g (strip g (evO T fo)) (args.toList.map fun x => strip g (evO T x)) H fun r => dr P z N l os (tput T dst (.opt g r)) H n Q
      | _ => False
    | .w _ => False
theorem dr_drun {P : Program} {z : TypeId → AV} {N : Nat} {l : List Oper} {ks : List DK} {Q : AEx → (Nat → AV) → Heap → Nat → Prop} :
    ∀ (m k : Nat) (T : Nat → AV) (H : Heap) (n : Nat), k + m = l.length → ks.length = l.length → dr P z N l ((l.zip ks).drop k) T H n Q → drun P z N l.toArray ((List.range' k m).map (item ks)) T H n Q
  | 0, k, T, H, n, hk, hl, h => by
    rw [List.drop_eq_nil_of_le (by simp [hl]; omega)] at h
    exact h
  | m + 1, k, T, H, n, hk, hl, h => by
    have h1 : k < l.length := by omega
    have h2 : k < ks.length := by omega
    have hlk : l[k]? = some l[k] := List.getElem?_eq_getElem h1
    have e : (l.zip ks).drop k = (l[k], ks[k]) :: (l.zip ks).drop (k + 1) := by
      rw [List.drop_eq_getElem_cons (by simp [hl]; omega)]; simp
    rw [e] at h
    have ih := fun (T : Nat → AV) (H : Heap) (n : Nat) => dr_drun (P := P) (z := z) (N := N) (ks := ks) (Q := Q) m (k + 1) T H n (by omega) hl
    rw [List.range'_succ, List.map_cons]
    have ei : item ks k = (k, ks[k], ks[k].inc) := by simp [item, List.getD, List.getElem?_eq_getElem h2]
    rw [ei]
    show dstep P z N l.toArray k ks[k] ks[k].inc T H n _ Q
    unfold dstep
    simp only [List.getElem?_toArray, hlk]
    generalize l[k] = o at h ⊢
    generalize ks[k] = kd at h ⊢
    obtain ⟨dst, op, ty, pos, after, guard⟩ := o
    cases guard with
    | none =>
      unfold dr at h
      refine ⟨h.1, ?_⟩
      have h := h.2
      cases kd with
      | m =>
        simp only [gvO, contB, putG] at h ⊢
        split
        · exact ih _ _ _ h
        · rename_i hne; split at h
          · exact (hne _ rfl).elim
          · exact h
      | q =>
        simp only [gvO, contB, putG] at h ⊢
        cases hq : opQ P z H true T op with
        | none => rw [hq] at h; exact h.elim
        | some p => rw [hq] at h; exact ⟨fun _ => h.1, ih _ _ _ h.2⟩
      | c =>
        simp only [gvO, contB, putG] at h ⊢
        split
        · rename_i fo args ts; obtain ⟨r, h1, h2⟩ := h; exact ⟨r, fun _ => h1 rfl, ih _ _ _ h2⟩
        · rename_i hne; split at h
          · exact (hne _ _ _ rfl).elim
          · exact h
      | w inc =>
        simp only [DK.inc] at h ⊢
        refine ⟨trivial, ?_⟩
        split
        · rename_i fo args ts
          exact callK_mono (fun r H n hr => ⟨sames_all hr.1, ih _ _ _ hr.2⟩) h
        · rename_i hne
          split at h
          · rename_i fo args ts; exact (hne _ _ _ rfl).elim
          · cases hw : opW P z H n T op with
            | none => rw [hw] at h; exact h.elim
            | some p => rw [hw] at h; exact ⟨h.1, sames_all h.2.1, ih _ _ _ h.2.2⟩
    | some jb =>
      obtain ⟨j, b⟩ := jb
      unfold dr at h
      refine ⟨h.1, ?_⟩
      have h := h.2
      have hgv : gvO l.toArray T ⟨dst, op, ty, pos, after, some (j, b)⟩ = (gtmp l.toArray j).bind fun t => gval (T t) b := rfl
      cases hg : (gtmp l.toArray j).bind fun t => gval (T t) b with
      | none => rw [hg] at h; exact h.elim
      | some g =>
        rw [hg] at h
        simp only [contB] at h
        cases kd with
        | m =>
          simp only [hgv, hg, contB, putG] at h ⊢
          split
          · exact ih _ _ _ h
          · rename_i hne; split at h
            · exact (hne _ rfl).elim
            · exact h
        | q =>
          simp only [hgv, hg, contB, putG] at h ⊢
          cases hq : opQ P z H g T op with
          | none => rw [hq] at h; exact ⟨h.1, ih _ _ _ h.2⟩
          | some p => rw [hq] at h; exact ⟨h.1, ih _ _ _ h.2⟩
        | c =>
          simp only [hgv, hg, contB, putG] at h ⊢
          split
          · rename_i fo args ts; obtain ⟨r, h1, h2⟩ := h; exact ⟨r, h1, ih _ _ _ h2⟩
          · rename_i hne; split at h
            · rename_i fo args ts; exact (hne _ _ _ rfl).elim
            · exact h
        | w inc => exact h.elim
theorem awp_drw {P : Program} {N id : Nat} {l : List Oper} {y : Code} {T : Nat → AV} {H : Heap} {n : Nat} {Q : AEx → (Nat → AV) → Heap → Nat → Prop} (hm : P.follows .mixedOrders = true) (z : TypeId → AV) (live : List Nat) (ks : List DK)
    (hc : dcheck l N ks = true) (hpan : ∀ p T T' H n, Q (.pan p) T H n → Q (.pan p) T' H n)
    (h : ∀ K : (Nat → AV) → Heap → Nat → Prop, (∀ T H n, awp P N y T H n Q → K T H n) → dr P z N l (l.zip ks) T H n (AThen (fun T' H' n' => K (tsel live T') H' n') Q)) :
    awp P N (.seq (.region id l.toArray true) y) T H n Q :=
  awp_draw hm z live ks hc hpan fun K hK => by
    have hlen : ks.length = l.length := by
      unfold dcheck at hc; simp only [Bool.and_eq_true, beq_iff_eq] at hc; exact hc.1.1
    rw [List.range_eq_range']
    exact dr_drun l.length 0 T H n (by omega) hlen (by simpa using h K hK)
section
variable (P : Program) (z : TypeId → AV) (N : Nat) (l : List Oper) (T : Nat → AV) (H : Heap) (n : Nat) (Q : AEx → (Nat → AV) → Heap → Nat → Prop) (dst : Option Tmp) (ty : TypeId) (pos : String) (after : Array Edge) (os : List (Oper × DK)) (j : Nat) (bb : Bool)
theorem dr_nil : dr P z N l [] T H n Q = Q .normal T H n := rfl
theorem dr_m (x : Operand) : dr P z N l ((⟨dst, .move x, ty, pos, after, none⟩, .m) :: os) T H n Q = (dOK N dst ∧ dr P z N l os (tput T dst (strip true (evO T x))) H n Q) := rfl
theorem dr_gm (x : Operand) : dr P z N l ((⟨dst, .move x, ty, pos, after, some (j, bb)⟩, .m) :: os) T H n Q = (dOK N dst ∧ contB ((gtmp l.toArray j).bind fun t => gval (T t) bb) fun g => dr P z N l os (tput T dst (.opt g (strip g (evO T x)))) H n Q) := rfl
theorem dr_q (op : Op) : dr P z N l ((⟨dst, op, ty, pos, after, none⟩, .q) :: os) T H n Q = (dOK N dst ∧ cont (opQ P z H true T op) fun r => dr P z N l os (tput T dst r) H n Q) := rfl
theorem dr_gq (op : Op) : dr P z N l ((⟨dst, op, ty, pos, after, some (j, bb)⟩, .q) :: os) T H n Q = (dOK N dst ∧ contB ((gtmp l.toArray j).bind fun t => gval (T t) bb) fun g => contG g (opQ P z H g T op) fun r => dr P z N l os (tput T dst r) H n Q) := rfl
theorem dr_c (fo : Operand) (args : List Operand) (ts : Array TypeId) : dr P z N l ((⟨dst, .call ⟨.value fo, args.toArray, ts⟩, ty, pos, after, none⟩, .c) :: os) T H n Q = (dOK N dst ∧ callQG P true (strip true (evO T fo)) (args.map fun x => strip true (evO T x)) H fun r => dr P z N l os (tput T dst r) H n Q) := rfl
theorem dr_gc (fo : Operand) (args : List Operand) (ts : Array TypeId) : dr P z N l ((⟨dst, .call ⟨.value fo, args.toArray, ts⟩, ty, pos, after, some (j, bb)⟩, .c) :: os) T H n Q = (dOK N dst ∧ contB ((gtmp l.toArray j).bind fun t => gval (T t) bb) fun g => callQG P g (strip g (evO T fo)) (args.map fun x => strip g (evO T x)) H fun r => dr P z N l os (tput T dst (.opt g r)) H n Q) := rfl
theorem dr_wc (inc : List Nat) (fo : Operand) (args : List Operand) (ts : Array TypeId) : dr P z N l ((⟨dst, .call ⟨.value fo, args.toArray, ts⟩, ty, pos, after, none⟩, .w inc) :: os) T H n Q = (dOK N dst ∧ callK P (evO T fo) (args.map (evO T)) H n (fun r H' n' => sames P z l T H H' inc ∧ dr P z N l os (tput T dst r) H' n' Q) (fun p H' n' => Q (.pan p) T H' n')) := rfl
theorem dr_store (inc : List Nat) (t : TypeId) (x v : Operand) : dr P z N l ((⟨dst, .store t x v, ty, pos, after, none⟩, .w inc) :: os) T H n Q = (dOK N dst ∧ contW (opW P z H n T (.store t x v)) fun r H' n' => sames P z l T H H' inc ∧ dr P z N l os (tput T dst r) H' n' Q) := rfl
theorem dr_box (inc : List Nat) (t : TypeId) (x : Operand) : dr P z N l ((⟨dst, .box t x, ty, pos, after, none⟩, .w inc) :: os) T H n Q = (dOK N dst ∧ contW (opW P z H n T (.box t x)) fun r H' n' => sames P z l T H H' inc ∧ dr P z N l os (tput T dst r) H' n' Q) := rfl
theorem dr_alloc (inc : List Nat) (t : TypeId) : dr P z N l ((⟨dst, .alloc t, ty, pos, after, none⟩, .w inc) :: os) T H n Q = (dOK N dst ∧ contW (opW P z H n T (.alloc t)) fun r H' n' => sames P z l T H H' inc ∧ dr P z N l os (tput T dst r) H' n' Q) := rfl
theorem dr_makeMap (inc : List Nat) (t : TypeId) (r : Option Operand) : dr P z N l ((⟨dst, .makeMap t r, ty, pos, after, none⟩, .w inc) :: os) T H n Q = (dOK N dst ∧ contW (opW P z H n T (.makeMap t r)) fun r H' n' => sames P z l T H H' inc ∧ dr P z N l os (tput T dst r) H' n' Q) := rfl
theorem dr_mapUpdate (inc : List Nat) (t : TypeId) (m k v : Operand) : dr P z N l ((⟨dst, .mapUpdate t m k v, ty, pos, after, none⟩, .w inc) :: os) T H n Q = (dOK N dst ∧ contW (opW P z H n T (.mapUpdate t m k v)) fun r H' n' => sames P z l T H H' inc ∧ dr P z N l os (tput T dst r) H' n' Q) := rfl
theorem dr_buildSlice (inc : List Nat) (t : TypeId) (k : Nat) (p : Array (Nat × Operand)) : dr P z N l ((⟨dst, .buildSlice t k p, ty, pos, after, none⟩, .w inc) :: os) T H n Q = (dOK N dst ∧ contW (opW P z H n T (.buildSlice t k p)) fun r H' n' => sames P z l T H H' inc ∧ dr P z N l os (tput T dst r) H' n' Q) := rfl
theorem dr_append (inc : List Nat) (args : Array Operand) (ts : Array TypeId) : dr P z N l ((⟨dst, .call ⟨.builtin .append, args, ts⟩, ty, pos, after, none⟩, .w inc) :: os) T H n Q = (dOK N dst ∧ contW (opW P z H n T (.call ⟨.builtin .append, args, ts⟩)) fun r H' n' => sames P z l T H H' inc ∧ dr P z N l os (tput T dst r) H' n' Q) := rfl
end
mutual
def flat : AV → Option (List Value)
  | .int k n => some [.int k n]
  | .bool b => some [.bool b]
  | .str s => some [.string ⟨s.toArray⟩]
  | .nilp => some [.pointer none]
  | .nilsl => some [.slice none 0 0]
  | .nilf => some [.nilFunc]
  | .nilm => some [.map none]
  | .nili => some [.nilIface]
  | .agg fs => flats fs
  | _ => none
def flats : List AV → Option (List Value)
  | [] => some []
  | f :: fs => match flat f, flats fs with
    | some a, some b => some (a ++ b)
    | _, _ => none
end
mutual
theorem flat_rel (c : Ctx) : ∀ (av : AV) (cs : List Value), flat av = some cs → Rel c av true cs
  | .int k n, cs, h => by simp only [flat, Option.some.injEq] at h; subst h; simp [Rel]
  | .bool b, cs, h => by simp only [flat, Option.some.injEq] at h; subst h; simp [Rel]
  | .str s, cs, h => by simp only [flat, Option.some.injEq] at h; subst h; simp [Rel]
  | .nilp, cs, h => by simp only [flat, Option.some.injEq] at h; subst h; simp [Rel]
  | .nilsl, cs, h => by simp only [flat, Option.some.injEq] at h; subst h; simp [Rel]
  | .nilf, cs, h => by simp only [flat, Option.some.injEq] at h; subst h; simp [Rel]
  | .nilm, cs, h => by simp only [flat, Option.some.injEq] at h; subst h; simp [Rel]
  | .nili, cs, h => by simp only [flat, Option.some.injEq] at h; subst h; simp [Rel]
  | .agg fs, cs, h => by simp only [flat] at h; simp only [Rel]; exact flats_rel c fs cs h
  | .rp _, _, h => by simp [flat] at h
  | .loc _ _ _ _ _, _, h => by simp [flat] at h
  | .sl _ _, _, h => by simp [flat] at h
  | .osl _ _ _ _, _, h => by simp [flat] at h
  | .tup _, _, h => by simp [flat] at h
  | .fn _ _ _, _, h => by simp [flat] at h
  | .omap _, _, h => by simp [flat] at h
  | .iface _ _, _, h => by simp [flat] at h
  | .opt _ _, _, h => by simp [flat] at h
  | .raw _, _, h => by simp [flat] at h
  | .junk, _, h => by simp [flat] at h
theorem flats_rel (c : Ctx) : ∀ (fs : List AV) (cs : List Value), flats fs = some cs → RelF c fs cs
  | [], cs, h => by simp only [flats, Option.some.injEq] at h; subst h; simp [RelF]
  | f :: fs, cs, h => by
    simp only [flats] at h
    split at h
    · rename_i a b ha hb
      simp only [Option.some.injEq] at h
      subst h
      simp only [RelF]
      exact ⟨a, b, rfl, flat_rel c f a ha, flats_rel c fs b hb⟩
    · simp at h
end
def flatV (z : AV) : Option Value :=
  match z with
  | .agg fs => (flats fs).map fun cs => .agg cs.toArray
  | z => match flat z with
    | some [v] => some v
    | _ => none
theorem zeroIs_of {P : Program} {t : TypeId} {z : AV} (hm : z.memOK = true) (v : Value) (h1 : ((P.info? t).bind (·.zero)) = some v) (h : flatV z = some v) : ZeroIs P t z := by
  cases hi : P.info? t with
  | none => rw [hi] at h1; simp at h1
  | some i =>
    rw [hi] at h1
    refine ⟨hm, i, v, hi, by simpa using h1, fun c => ?_⟩
    unfold flatV at h
    split at h
    · rename_i fs
      cases hf : flats fs with
      | none => rw [hf] at h; simp at h
      | some cs =>
        rw [hf] at h
        simp only [Option.map_some, Option.some.injEq] at h
        subst h
        simp only [Rel]
        exact ⟨_, rfl, flats_rel c fs _ (by simpa using hf)⟩
    · rename_i hne
      split at h
      · rename_i u hu
        simp only [Option.some.injEq] at h
        subst h
        have := flat_rel c _ _ hu
        obtain ⟨v', e, hv⟩ := Rel.toVal this (by cases z <;> first | rfl | exact (hne _ rfl).elim)
        simp at e; subst e; exact hv
      · simp at h
attribute [go_sem] dr_nil dr_m dr_gm dr_q dr_gq dr_c dr_gc dr_wc dr_store dr_box dr_alloc dr_append dr_makeMap dr_mapUpdate dr_buildSlice sames.eq_1 sames.eq_2 opAt.eq_1 opAt.eq_2 opAt.eq_3
attribute [go_sem] List.map_cons List.map_nil true_and and_true Option.bind_some cond_true cond_false List.zip_cons_cons List.zip_nil_right Bool.not_or_self List.length_cons List.length_nil
end Go.Sx
namespace Go.Sx
open Go
section
variable {P : Program} {N : Nat} {code : Code} {T T' : Nat → AV} {H H' : Heap} {n n' : Nat} {Q : AEx → (Nat → AV) → Heap → Nat → Prop}
theorem awp_ghost (h : ∀ c w tmps, Sim c H n w → RelTmps c T tmps → ∃ c', Step c H w c' H' n' w ∧ RelTmps c' T' tmps) (hk : awp P N code T' H' n' Q) : awp P N code T H n Q := fun c w a hs hr hN hd => by
  obtain ⟨c', hst, hr'⟩ := h c w a.tmps hs hr
  exact Go.wp_mono (hk c' w a hst.sim hr' hN hd) fun _ _ _ hp => hp.step hst
end
theorem awp_seq_j {P : Program} {N : Nat} {x y : Code} {T : Nat → AV} {H : Heap} {n : Nat} {Q : AEx → (Nat → AV) → Heap → Nat → Prop} (J : (Nat → AV) → Heap → Nat → Prop)
    (h : awp P N x T H n (AThen J Q)) (hJ : ∀ T H n, J T H n → awp P N y T H n Q) : awp P N (.seq x y) T H n Q :=
  awp_seq (h.mono fun e T H n hq => by cases e <;> first | exact hJ _ _ _ hq | exact hq)
theorem awp_postsel {P : Program} {N : Nat} {x : Code} {T : Nat → AV} {H : Heap} {n : Nat} {Q : AEx → (Nat → AV) → Heap → Nat → Prop} (live : List Nat) (h : awp P N x T H n (AThen (fun T H n => Q .normal (tsel live T) H n) Q)) : awp P N x T H n Q := fun c w a hs hr hN hd => by
  refine Go.wp_mono (h c w a hs hr hN hd) ?_
  rintro e a' w' ⟨ae, c', T', H', n', hQ, hm, hst, hr', hN', hd'⟩
  cases ae with
  | normal => exact ⟨.normal, c', tsel live T', H', n', hQ, hm, hst, tsel_rel live hr', hN', hd'⟩
  | exit i => exact ⟨.exit i, c', T', H', n', hQ, hm, hst, hr', hN', hd'⟩
  | ret => exact ⟨.ret, c', T', H', n', hQ, hm, hst, hr', hN', hd'⟩
  | pan p => exact ⟨.pan p, c', T', H', n', hQ, hm, hst, hr', hN', hd'⟩
theorem awp_reg1 {P : Program} {N id : Nat} {l : List Oper} {T : Nat → AV} {H : Heap} {n : Nat} {Q : AEx → (Nat → AV) → Heap → Nat → Prop} (z : TypeId → AV) (live : List Nat)
    (h : ∀ K : (Nat → AV) → Heap → Nat → Prop, (∀ T H n, Q .normal T H n → K T H n) → erun P z N l.toArray l T H n (AThen (fun T' H' n' => K (tsel live T') H' n') Q)) :
    awp P N (.region id l.toArray false) T H n Q :=
  awp_postsel live (awp_region z (by simpa using h (fun T' H' n' => Q .normal T' H' n') (fun _ _ _ h => h)))
theorem awp_drw1 {P : Program} {N id : Nat} {l : List Oper} {T : Nat → AV} {H : Heap} {n : Nat} {Q : AEx → (Nat → AV) → Heap → Nat → Prop} (hm : P.follows .mixedOrders = true) (z : TypeId → AV) (live : List Nat) (ks : List DK)
    (hc : dcheck l N ks = true) (hpan : ∀ p T T' H n, Q (.pan p) T H n → Q (.pan p) T' H n)
    (h : ∀ K : (Nat → AV) → Heap → Nat → Prop, (∀ T H n, Q .normal T H n → K T H n) → dr P z N l (l.zip ks) T H n (AThen (fun T' H' n' => K (tsel live T') H' n') Q)) :
    awp P N (.region id l.toArray true) T H n Q :=
  awp_postsel live <| awp_draw0 hm z ks hc (fun p T T' H n hq => hpan p T T' H n hq) (by
    have hlen : ks.length = l.length := by
      unfold dcheck at hc; simp only [Bool.and_eq_true, beq_iff_eq] at hc; exact hc.1.1
    rw [List.range_eq_range']
    exact dr_drun l.length 0 T H n (by omega) hlen (by simpa using h (fun T' H' n' => Q .normal T' H' n') (fun _ _ _ h => h)))
def Wk (a b : AV) : Prop := a.sz = b.sz ∧ ∀ c m cs, Rel c a m cs → Rel c b m cs
theorem Wk.refl (a : AV) : Wk a a := ⟨rfl, fun _ _ _ h => h⟩
theorem Wk.nilsl (e : Nat) : Wk .nilsl (.sl e []) := ⟨rfl, fun c m cs h => by
  simp only [Rel] at h ⊢; subst h; exact ⟨none, 0, by simp, by simp, by simp, .inl (by simp)⟩⟩
theorem Wk.junk (a : AV) : ∀ c v, Rel c a false [v] → Rel c .junk false [v] := fun c v _ => by simp [Rel]
def WkL : List AV → List AV → Prop
  | [], [] => True
  | a :: l, b :: m => Wk a b ∧ WkL l m
  | _, _ => False
theorem WkL.refl : ∀ l, WkL l l
  | [] => trivial
  | a :: l => ⟨.refl a, WkL.refl l⟩
theorem WkL.relF {c : Ctx} : ∀ {l m : List AV} {cs : List Value}, WkL l m → RelF c l cs → RelF c m cs
  | [], [], _, _, h => h
  | a :: l, b :: m, cs, hw, h => by
    simp only [RelF] at h ⊢
    obtain ⟨c1, c2, e, h1, h2⟩ := h
    exact ⟨c1, c2, e, hw.1.2 _ _ _ h1, hw.2.relF h2⟩
  | [], _ :: _, _, hw, _ => hw.elim
  | _ :: _, [], _, hw, _ => hw.elim
theorem WkL.relT {c : Ctx} : ∀ {l m : List AV} {cs : List Value}, WkL l m → RelT c l cs → RelT c m cs
  | [], [], _, _, h => h
  | a :: l, b :: m, cs, hw, h => by
    simp only [RelT] at h ⊢
    obtain ⟨c1, c2, e, h1, h2⟩ := h
    exact ⟨c1, c2, e, hw.1.2 _ _ _ h1, hw.2.relT h2⟩
  | [], _ :: _, _, hw, _ => hw.elim
  | _ :: _, [], _, hw, _ => hw.elim
theorem WkL.szs : ∀ {l m : List AV}, WkL l m → AV.szs l = AV.szs m
  | [], [], _ => rfl
  | a :: l, b :: m, hw => by simp only [AV.szs]; rw [hw.1.1, hw.2.szs]
  | [], _ :: _, hw => hw.elim
  | _ :: _, [], hw => hw.elim
theorem WkL.len : ∀ {l m : List AV}, WkL l m → l.length = m.length
  | [], [], _ => rfl
  | a :: l, b :: m, hw => by simp [hw.2.len]
  | [], _ :: _, hw => hw.elim
  | _ :: _, [], hw => hw.elim
theorem Wk.agg {l m : List AV} (h : WkL l m) : Wk (.agg l) (.agg m) := ⟨by simp only [AV.sz]; exact h.szs, fun c mm cs hr => by
  cases mm with
  | true => simp only [Rel] at hr ⊢; exact h.relF hr
  | false => simp only [Rel] at hr ⊢; obtain ⟨arr, e, hr⟩ := hr; exact ⟨arr, e, h.relF hr⟩⟩
theorem WkL.szAll {e : Nat} : ∀ {l m : List AV}, WkL l m → (∀ x ∈ l, x.sz = e) → ∀ x ∈ m, x.sz = e
  | [], [], _, _, x, hx => by simp at hx
  | a :: l, b :: m, hw, h, x, hx => by
    rcases List.mem_cons.1 hx with rfl | hx
    · rw [← hw.1.1]; exact h a (by simp)
    · exact hw.2.szAll (fun y hy => h y (by simp [hy])) x hx
  | [], _ :: _, hw, _, _, _ => hw.elim
  | _ :: _, [], hw, _, _, _ => hw.elim
theorem ACalls.wk {P : Program} {f : FuncId} {args args' : List AV} {H : Heap} {n : Nat} {K : ARes → Heap → Nat → Prop} (hw : WkL args args') (h : ACalls P f args' H n K) : ACalls P f args H n K :=
  fun c w vs hs hr => h c w vs hs (hw.relT hr)
theorem Ret.wk {P : Program} {f : FuncId} {args args' : List AV} {H : Heap} {n : Nat} {r : AV} {H' : Heap} {n' : Nat} (h : Ret P f args' H n r H' n') (hw : WkL args args') : Ret P f args H n r H' n' := ACalls.wk hw h
def Adp (n : Nat) (a b : AV) : Prop := a.sz = b.sz ∧ ∀ c m cs, c.ρ n 0 = some .nil → Rel c a m cs → Rel c b m cs
theorem Adp.refl (n : Nat) (a : AV) : Adp n a a := ⟨rfl, fun _ _ _ _ h => h⟩
theorem Adp.nilsl (n : Nat) : Adp n .nilsl (.osl n 0 0 0) := ⟨rfl, fun c m cs hl h => by
  simp only [Rel] at h ⊢; exact ⟨.nil, hl, by simp, by simp, h⟩⟩
def AdpL (n : Nat) : List AV → List AV → Prop
  | [], [] => True
  | a :: l, b :: m => Adp n a b ∧ AdpL n l m
  | _, _ => False
theorem AdpL.relF {n : Nat} {c : Ctx} (hl : c.ρ n 0 = some .nil) : ∀ {l m : List AV} {cs : List Value}, AdpL n l m → RelF c l cs → RelF c m cs
  | [], [], _, _, h => h
  | a :: l, b :: m, cs, hw, h => by
    simp only [RelF] at h ⊢
    obtain ⟨c1, c2, e, h1, h2⟩ := h
    exact ⟨c1, c2, e, hw.1.2 _ _ _ hl h1, AdpL.relF hl hw.2 h2⟩
  | [], _ :: _, _, hw, _ => hw.elim
  | _ :: _, [], _, hw, _ => hw.elim
theorem AdpL.szs {n : Nat} : ∀ {l m : List AV}, AdpL n l m → AV.szs l = AV.szs m
  | [], [], _ => rfl
  | a :: l, b :: m, hw => by simp only [AV.szs]; rw [hw.1.1, hw.2.szs]
  | [], _ :: _, hw => hw.elim
  | _ :: _, [], hw => hw.elim
theorem AdpL.len {n : Nat} : ∀ {l m : List AV}, AdpL n l m → l.length = m.length
  | [], [], _ => rfl
  | a :: l, b :: m, hw => by simp [hw.2.len]
  | [], _ :: _, hw => hw.elim
  | _ :: _, [], hw => hw.elim
theorem AdpL.szAll {n e : Nat} : ∀ {l m : List AV}, AdpL n l m → (∀ x ∈ l, x.sz = e) → ∀ x ∈ m, x.sz = e
  | [], [], _, _, x, hx => by simp at hx
  | a :: l, b :: m, hw, h, x, hx => by
    rcases List.mem_cons.1 hx with rfl | hx
    · rw [← hw.1.1]; exact h a (by simp)
    · exact hw.2.szAll (fun y hy => h y (by simp [hy])) x hx
  | [], _ :: _, hw, _, _, _ => hw.elim
  | _ :: _, [], hw, _, _, _ => hw.elim
theorem Adp.agg {n : Nat} {l m : List AV} (h : AdpL n l m) : Adp n (.agg l) (.agg m) := ⟨by simp only [AV.sz]; exact h.szs, fun c mm cs hl hr => by
  cases mm with
  | true => simp only [Rel] at hr ⊢; exact h.relF hl hr
  | false => simp only [Rel] at hr ⊢; obtain ⟨arr, e, hr⟩ := hr; exact ⟨arr, e, h.relF hl hr⟩⟩
theorem Step.newNil {c : Ctx} {H : Heap} {n : Nat} {w : World} (hs : Sim c H n w) (esz : Nat) : Step c H w (c.addLoc n 0 .nil) (H.put n (some (.arr 0 esz []))) (n + 1) w := by
  have hf := hs.fresh n (Nat.le_refl _)
  refine Step.renew (n' := n + 1) hs n (.arr 0 esz []) .nil (by omega) (by omega) (hf.2 0) (fun v _ => hf.2 v) (.refl _ _) (fun _ _ _ _ _ _ => rfl) (fun _ _ _ => rfl) ?_ (fun b cap e h => by simp at h)
  simp only [OwnOK]
  exact ⟨_, Ctx.addLoc_same, trivial⟩
theorem awp_adopt_tmp {P : Program} {N : Nat} {code : Code} {T : Nat → AV} {H : Heap} {n : Nat} {Q : AEx → (Nat → AV) → Heap → Nat → Prop} (t : Tmp) (esz : Nat) (hT : T t = .nilsl)
    (h : awp P N code (tput T (some t) (.osl n 0 0 0)) (H.put n (some (.arr 0 esz []))) (n + 1) Q) : awp P N code T H n Q :=
  awp_ghost (fun c w tmps hs hr => by
    have hst := Step.newNil hs esz
    refine ⟨_, hst, fun u => ?_⟩
    have hu := Rel.mono hst.le _ _ _ (hr u)
    simp only [tput]
    split
    · rename_i e; subst e; rw [hT] at hu; exact (Adp.nilsl n).2 _ _ _ Ctx.addLoc_same hu
    · exact hu) h
theorem Step.retell {c : Ctx} {H : Heap} {n : Nat} {w : World} (hs : Sim c H n w) {k ver e : Nat} {els els' : List AV} (hk : H k = some (.arr ver e els))
    (hrel : ∀ ds, RelF c els ds → RelF c els' ds) (hlen : els'.length = els.length) (hsz : (∀ x ∈ els, x.sz = e) → ∀ x ∈ els', x.sz = e) : Step c H w c (H.put k (some (.arr ver e els'))) n w := by
  refine Step.write hs k _ (.arr ver e els') hk rfl (.refl _ _) (fun _ _ _ _ _ _ => rfl) (fun _ _ _ => rfl) ?_
  have ho := hs.own k _ hk
  simp only [OwnOK] at ho ⊢
  obtain ⟨l, hl, hm⟩ := ho
  refine ⟨l, hl, ?_⟩
  cases l with
  | nil =>
    simp only at hm
    subst hm
    exact List.length_eq_zero_iff.1 (by simpa using hlen)
  | blk b cap e' =>
    obtain ⟨he, hz, hc, arr, ty, ds, hb, hs', hr, ha⟩ := hm
    exact ⟨he, hsz hz, by omega, arr, ty, ds, hb, hs', hrel _ hr, ha⟩
theorem awp_adopt_obj {P : Program} {N : Nat} {code : Code} {T : Nat → AV} {H : Heap} {n : Nat} {Q : AEx → (Nat → AV) → Heap → Nat → Prop} (k esz : Nat) {ver e : Nat} {els els' : List AV} (hk : H k = some (.arr ver e els)) (ha : AdpL n els els')
    (h : awp P N code T ((H.put n (some (.arr 0 esz []))).put k (some (.arr ver e els'))) (n + 1) Q) : awp P N code T H n Q :=
  awp_ghost (fun c w tmps hs hr => by
    have hst := Step.newNil hs esz
    have hkn : k ≠ n := fun e => by subst e; rw [(hs.fresh _ (Nat.le_refl _)).1] at hk; simp at hk
    have hst2 := Step.retell (els' := els') hst.sim (k := k) (by rw [Heap.put_ne _ _ hkn]; exact hk) (fun ds hd => ha.relF Ctx.addLoc_same hd) ha.len.symm ha.szAll
    exact ⟨_, hst.trans hst2, RelTmps.mono (hst.trans hst2).le hr⟩) h
theorem awp_wk_tmp {P : Program} {N : Nat} {code : Code} {T : Nat → AV} {H : Heap} {n : Nat} {Q : AEx → (Nat → AV) → Heap → Nat → Prop} (t : Tmp) (v : AV) (hT : Wk (T t) v)
    (h : awp P N code (tput T (some t) v) H n Q) : awp P N code T H n Q :=
  awp_ghost (fun c w tmps hs hr => ⟨c, .refl hs, fun u => by
    simp only [tput]
    split
    · rename_i e; subst e; exact hT.2 _ _ _ (hr _)
    · exact hr u⟩) h
mutual
def AV.kl (n : Nat) : AV → Prop
  | .loc k _ _ _ _ => k < n
  | .osl k _ _ _ => k < n
  | .omap k => k < n
  | .rp d => d.kl n
  | .sl _ xs => AV.kls n xs
  | .agg fs => AV.kls n fs
  | .tup fs => AV.kls n fs
  | .fn _ a b => AV.kls n a ∧ AV.kls n b
  | .iface _ v => v.kl n
  | .opt g v => g = true → v.kl n
  | _ => True
def AV.kls (n : Nat) : List AV → Prop
  | [] => True
  | f :: fs => f.kl n ∧ AV.kls n fs
end
theorem AV.kls_iff (n : Nat) (l : List AV) : AV.kls n l ↔ ∀ x ∈ l, x.kl n := by
  induction l with
  | nil => simp [AV.kls]
  | cons a l ih => simp [AV.kls, ih]
def Ctx.under (c : Ctx) (n : Nat) : Prop := ∀ k v, n ≤ k → c.ρ k v = none
mutual
theorem kl_of_rel {c : Ctx} {n : Nat} (hu : c.under n) : ∀ (av : AV) (m : Bool) (cs : List Value), Rel c av m cs → av.kl n
  | .int _ _, _, _, _ => trivial
  | .bool _, _, _, _ => trivial
  | .str _, _, _, _ => trivial
  | .nilp, _, _, _ => trivial
  | .nilsl, _, _, _ => trivial
  | .nilf, _, _, _ => trivial
  | .nilm, _, _, _ => trivial
  | .nili, _, _, _ => trivial
  | .raw _, _, _, _ => trivial
  | .junk, _, _, _ => trivial
  | .rp d, _, _, h => by
    simp only [Rel] at h
    obtain ⟨b, off, arr, ds, _, _, hd, _⟩ := h
    simp only [AV.kl]; exact kl_of_rel hu d _ _ hd
  | .loc k v _ _ _, _, _, h => by
    simp only [Rel] at h
    obtain ⟨b, cap, esz, hk, _⟩ := h
    simp only [AV.kl]
    rcases Nat.lt_or_ge k n with h | h
    · exact h
    · rw [hu k v h] at hk; simp at hk
  | .osl k v _ _, _, _, h => by
    simp only [Rel] at h
    obtain ⟨l, hk, _⟩ := h
    simp only [AV.kl]
    rcases Nat.lt_or_ge k n with h | h
    · exact h
    · rw [hu k v h] at hk; simp at hk
  | .omap k, _, _, h => by
    simp only [Rel] at h
    obtain ⟨b, cap, esz, hk, _⟩ := h
    simp only [AV.kl]
    rcases Nat.lt_or_ge k n with h | h
    · exact h
    · rw [hu k 0 h] at hk; simp at hk
  | .sl _ xs, _, _, h => by
    simp only [Rel] at h
    obtain ⟨a, cap, _, _, _, hx⟩ := h
    simp only [AV.kl]
    rcases hx with rfl | ⟨b, off, arr, ds, _, _, hd, _⟩
    · trivial
    · exact kls_of_rel hu xs _ hd
  | .agg fs, true, _, h => by simp only [Rel] at h; simp only [AV.kl]; exact kls_of_rel hu fs _ h
  | .agg fs, false, _, h => by simp only [Rel] at h; obtain ⟨arr, _, h⟩ := h; simp only [AV.kl]; exact kls_of_rel hu fs _ h
  | .tup fs, false, _, h => by simp only [Rel] at h; obtain ⟨arr, _, h⟩ := h; simp only [AV.kl]; exact klt_of_rel hu fs _ h
  | .tup _, true, _, h => by simp [Rel] at h
  | .fn _ a b, _, _, h => by
    simp only [Rel] at h
    obtain ⟨fv, cv, _, h1, h2⟩ := h
    simp only [AV.kl]; exact ⟨klt_of_rel hu a _ h1, klt_of_rel hu b _ h2⟩
  | .iface _ v, _, _, h => by
    simp only [Rel] at h
    obtain ⟨x, _, h⟩ := h
    simp only [AV.kl]; exact kl_of_rel hu v _ _ h
  | .opt g v, false, _, h => by
    simp only [Rel] at h
    simp only [AV.kl]
    intro hg
    rcases h with ⟨_, h⟩ | ⟨h, _⟩
    · exact kl_of_rel hu v _ _ h
    · rw [hg] at h; simp at h
  | .opt _ _, true, _, h => by simp [Rel] at h
theorem kls_of_rel {c : Ctx} {n : Nat} (hu : c.under n) : ∀ (fs : List AV) (cs : List Value), RelF c fs cs → AV.kls n fs
  | [], _, _ => trivial
  | f :: fs, _, h => by
    simp only [RelF] at h
    obtain ⟨c1, c2, _, h1, h2⟩ := h
    simp only [AV.kls]; exact ⟨kl_of_rel hu f _ _ h1, kls_of_rel hu fs _ h2⟩
theorem klt_of_rel {c : Ctx} {n : Nat} (hu : c.under n) : ∀ (fs : List AV) (cs : List Value), RelT c fs cs → AV.kls n fs
  | [], _, _ => trivial
  | f :: fs, _, h => by
    simp only [RelT] at h
    obtain ⟨c1, c2, _, h1, h2⟩ := h
    simp only [AV.kls]; exact ⟨kl_of_rel hu f _ _ h1, klt_of_rel hu fs _ h2⟩
end
structure Ctx.low (c c' : Ctx) (n : Nat) : Prop where
  ρ : ∀ {k v l}, k < n → c.ρ k v = some l → c'.ρ k v = some l
  ro : ∀ {b a}, c.ro b = some a → c'.ro b = some a
mutual
theorem Rel.low {c c' : Ctx} {n : Nat} (h : c.low c' n) : ∀ (av : AV) (m : Bool) (cs : List Value), av.kl n → Rel c av m cs → Rel c' av m cs
  | .int _ _, _, _, _, hr => by simpa [Rel] using hr
  | .bool _, _, _, _, hr => by simpa [Rel] using hr
  | .str _, _, _, _, hr => by simpa [Rel] using hr
  | .nilp, _, _, _, hr => by simpa [Rel] using hr
  | .rp d, _, _, hk, hr => by
    simp only [Rel] at hr ⊢
    simp only [AV.kl] at hk
    obtain ⟨b, off, arr, ds, e, hb, hd, ha⟩ := hr
    exact ⟨b, off, arr, ds, e, h.ro hb, Rel.low h d _ _ hk hd, ha⟩
  | .loc _ _ _ _ _, _, _, hk, hr => by
    simp only [Rel] at hr ⊢
    simp only [AV.kl] at hk
    obtain ⟨b, cap, esz, hl, e⟩ := hr
    exact ⟨b, cap, esz, h.ρ hk hl, e⟩
  | .nilsl, _, _, _, hr => by simpa [Rel] using hr
  | .sl _ xs, _, _, hk, hr => by
    simp only [Rel] at hr ⊢
    simp only [AV.kl] at hk
    obtain ⟨a, cap, e, hc, hz, hx⟩ := hr
    refine ⟨a, cap, e, hc, hz, hx.imp id ?_⟩
    rintro ⟨b, off, arr, ds, e1, hb, hd, ha⟩
    exact ⟨b, off, arr, ds, e1, h.ro hb, RelF.low h xs _ hk hd, ha⟩
  | .osl _ _ _ _, _, _, hk, hr => by
    simp only [Rel] at hr ⊢
    simp only [AV.kl] at hk
    obtain ⟨l, hl, hm⟩ := hr
    exact ⟨l, h.ρ hk hl, hm⟩
  | .agg fs, true, _, hk, hr => by simp only [Rel] at hr ⊢; simp only [AV.kl] at hk; exact RelF.low h fs _ hk hr
  | .agg fs, false, _, hk, hr => by
    simp only [Rel] at hr ⊢
    simp only [AV.kl] at hk
    obtain ⟨arr, e, hf⟩ := hr
    exact ⟨arr, e, RelF.low h fs _ hk hf⟩
  | .tup vs, false, _, hk, hr => by
    simp only [Rel] at hr ⊢
    simp only [AV.kl] at hk
    obtain ⟨arr, e, hf⟩ := hr
    exact ⟨arr, e, RelT.low h vs _ hk hf⟩
  | .tup _, true, _, _, hr => by simp [Rel] at hr
  | .fn _ a b, _, _, hk, hr => by
    simp only [Rel] at hr ⊢
    simp only [AV.kl] at hk
    obtain ⟨fv, cv, e, h1, h2⟩ := hr
    exact ⟨fv, cv, e, RelT.low h a _ hk.1 h1, RelT.low h b _ hk.2 h2⟩
  | .nilf, _, _, _, hr => by simpa [Rel] using hr
  | .nilm, _, _, _, hr => by simpa [Rel] using hr
  | .omap _, _, _, hk, hr => by
    simp only [Rel] at hr ⊢
    simp only [AV.kl] at hk
    obtain ⟨b, cap, esz, hl, e⟩ := hr
    exact ⟨b, cap, esz, h.ρ hk hl, e⟩
  | .nili, _, _, _, hr => by simpa [Rel] using hr
  | .iface _ v, _, _, hk, hr => by
    simp only [Rel] at hr ⊢
    simp only [AV.kl] at hk
    obtain ⟨x, e, hx⟩ := hr
    exact ⟨x, e, Rel.low h v _ _ hk hx⟩
  | .opt g v, false, _, hk, hr => by
    simp only [Rel] at hr ⊢
    simp only [AV.kl] at hk
    exact hr.imp (fun ⟨a, b⟩ => ⟨a, Rel.low h v _ _ (hk a) b⟩) id
  | .opt _ _, true, _, _, hr => by simp [Rel] at hr
  | .raw _, _, _, _, hr => by simpa [Rel] using hr
  | .junk, _, _, _, hr => by simpa [Rel] using hr
theorem RelF.low {c c' : Ctx} {n : Nat} (h : c.low c' n) : ∀ (fs : List AV) (cs : List Value), AV.kls n fs → RelF c fs cs → RelF c' fs cs
  | [], _, _, hr => by simpa [RelF] using hr
  | f :: fs, _, hk, hr => by
    simp only [RelF] at hr ⊢
    simp only [AV.kls] at hk
    obtain ⟨c1, c2, e, h1, h2⟩ := hr
    exact ⟨c1, c2, e, Rel.low h f _ _ hk.1 h1, RelF.low h fs _ hk.2 h2⟩
theorem RelT.low {c c' : Ctx} {n : Nat} (h : c.low c' n) : ∀ (fs : List AV) (cs : List Value), AV.kls n fs → RelT c fs cs → RelT c' fs cs
  | [], _, _, hr => by simpa [RelT] using hr
  | f :: fs, _, hk, hr => by
    simp only [RelT] at hr ⊢
    simp only [AV.kls] at hk
    obtain ⟨v, r, e, h1, h2⟩ := hr
    exact ⟨v, r, e, Rel.low h f _ _ hk.1 h1, RelT.low h fs _ hk.2 h2⟩
end
def AObj.kl (n : Nat) : AObj → Prop
  | .arr _ _ els => AV.kls n els
  | .map es => ∀ e ∈ es, e.1.kl n ∧ e.2.kl n
mutual
inductive Frz (H : Heap) (n : Nat) : AV → AV → Prop
  | kl {a : AV} : a.kl n → Frz H n a a
  | osl {k ver off len e : Nat} {els ys : List AV} : H k = some (.arr ver e els) → n ≤ k → off + len ≤ els.length → FrzL H n ((els.drop off).take len) ys → Frz H n (.osl k ver off len) (.sl e ys)
  | loc {k ver off i e : Nat} {els : List AV} {p : List Nat} {y : AV} : H k = some (.arr ver e els) → n ≤ k → i < els.length → off = i * e + (nth els i).pathOff p → (nth els i).pathOK p → Frz H n ((nth els i).at p) y → Frz H n (.loc k ver off i p) (.rp y)
  | agg {fs gs : List AV} : FrzL H n fs gs → Frz H n (.agg fs) (.agg gs)
  | tup {fs gs : List AV} : FrzL H n fs gs → Frz H n (.tup fs) (.tup gs)
  | sl {e : Nat} {fs gs : List AV} : FrzL H n fs gs → Frz H n (.sl e fs) (.sl e gs)
  | fn {f : Fn} {a b a' b' : List AV} : FrzL H n a a' → FrzL H n b b' → Frz H n (.fn f a b) (.fn f a' b')
  | nilsl {e : Nat} : Frz H n .nilsl (.sl e [])
inductive FrzL (H : Heap) (n : Nat) : List AV → List AV → Prop
  | nil : FrzL H n [] []
  | cons {a b : AV} {l m : List AV} : Frz H n a b → FrzL H n l m → FrzL H n (a :: l) (b :: m)
end
mutual
theorem Frz.sz {H : Heap} {n : Nat} : ∀ {a b : AV}, Frz H n a b → a.sz = b.sz
  | _, _, .kl _ => rfl
  | _, _, .osl _ _ _ _ => rfl
  | _, _, .loc _ _ _ _ _ _ => rfl
  | _, _, .agg h => by simp only [AV.sz]; exact h.szs
  | _, _, .tup _ => rfl
  | _, _, .sl _ => rfl
  | _, _, .fn _ _ => rfl
  | _, _, .nilsl => rfl
theorem FrzL.szs {H : Heap} {n : Nat} : ∀ {a b : List AV}, FrzL H n a b → AV.szs a = AV.szs b
  | _, _, .nil => rfl
  | _, _, .cons h1 h2 => by simp only [AV.szs]; rw [h1.sz, h2.szs]
end
theorem FrzL.len {H : Heap} {n : Nat} : ∀ {a b : List AV}, FrzL H n a b → a.length = b.length
  | _, _, .nil => rfl
  | _, _, .cons _ h => by simp [h.len]
theorem FrzL.szAll {H : Heap} {n e : Nat} : ∀ {a b : List AV}, FrzL H n a b → (∀ x ∈ a, x.sz = e) → ∀ x ∈ b, x.sz = e
  | _, _, .nil, _, x, hx => by simp at hx
  | _, _, .cons h1 h2, h, x, hx => by
    rcases List.mem_cons.1 hx with rfl | hx
    · rw [← h1.sz]; exact h _ (by simp)
    · exact h2.szAll (fun y hy => h y (by simp [hy])) x hx
open Classical in
noncomputable def Ctx.frz (c : Ctx) (H : Heap) (n : Nat) (w : World) : Ctx where
  ρ := fun k v => if k < n then c.ρ k v else none
  ro := fun b => match c.ro b with
    | some a => some a
    | none => if ∃ k ver e els, n ≤ k ∧ H k = some (.arr ver e els) ∧ blockOf c k (.arr ver e els) = some b then
        (match w.heap[b]? with | some (.cells a _ _) => some a | _ => none) else none
theorem Ctx.frz_low (c : Ctx) (H : Heap) (n : Nat) (w : World) : c.low (c.frz H n w) n where
  ρ := fun {k v l} hk h => by show (if k < n then c.ρ k v else none) = some l; rw [if_pos hk]; exact h
  ro := fun {b a} h => by simp only [Ctx.frz, h]
theorem Ctx.frz_ro {c : Ctx} {H : Heap} {n n' : Nat} {w : World} (hs : Sim c H n' w) {k ver e : Nat} {els : List AV} (hk : H k = some (.arr ver e els)) (hn : n ≤ k) {b : Nat} (hb : blockOf c k (.arr ver e els) = some b) {arr : Array Value} {ty : TypeId} {fr : Nat × Nat} (hw : w.heap[b]? = some (.cells arr ty fr)) :
    (c.frz H n w).ro b = some arr := by
  have h0 := hs.sep k _ b hk hb
  simp only [Ctx.frz, h0]
  rw [if_pos ⟨k, ver, e, els, hn, hk, hb⟩, hw]
mutual
theorem Frz.rel {c : Ctx} {H : Heap} {n n' : Nat} {w : World} (hs : Sim c H n' w) : ∀ {a b : AV}, Frz H n a b → ∀ {m : Bool} {cs : List Value}, Rel c a m cs → Rel (c.frz H n w) b m cs
  | _, _, .kl hk, _, _, hr => Rel.low (c.frz_low H n w) _ _ _ hk hr
  | _, _, .osl (k := k) (ver := ver) (off := off) (len := len) (e := e) (els := els) (ys := ys) hk hn hlen hL, m, cs, hr => by
    have hys := hL.len
    have hlen' : ((els.drop off).take len).length = len := by simp; omega
    rw [hlen'] at hys
    have ho := hs.own k _ hk
    simp only [OwnOK] at ho
    obtain ⟨l, hl, hm⟩ := ho
    simp only [Rel] at hr ⊢
    obtain ⟨l', hl', hmm⟩ := hr
    rw [hl] at hl'; cases hl'
    cases l with
    | nil =>
      obtain ⟨_, h2, ev⟩ := hmm
      subst h2
      have : ys = [] := List.length_eq_zero_iff.1 hys.symm
      subst this
      exact ⟨none, 0, by simpa using ev, by simp, by simp, .inl (by simp)⟩
    | blk b cap e' =>
      obtain ⟨he, hz, hc, arr, ty, ds, hb, hsz, hrf, ha⟩ := hm
      subst he
      obtain ⟨cp, o', h1, h2, h3, ev⟩ := hmm
      have hbo : blockOf c k (.arr ver e' els) = some b := by simp [blockOf, AObj.ver, hl]
      refine ⟨_, cp, by rw [← hys]; exact ev, by rw [← hys]; exact h1, hL.szAll fun x hx => hz x (List.mem_of_mem_drop (List.mem_of_mem_take hx)), ?_⟩
      by_cases h0 : len = 0
      · left; exact List.length_eq_zero_iff.1 (by omega)
      · right
        have eo : o' = off * e' := by rcases h3 with h3 | h3 <;> omega
        subst eo
        have e1 : els = els.take off ++ ((els.drop off).take len ++ (els.drop off).drop len) := by rw [List.take_append_drop, List.take_append_drop]
        rw [e1] at hrf
        obtain ⟨d1, r1, ed, hr1, hr2⟩ := RelF.append.1 hrf
        obtain ⟨d2, d3, ed2, hr3, hr4⟩ := RelF.append.1 hr2
        subst ed; subst ed2
        have hl1 : d1.length = off * e' := by
          rw [(RelF.len _ _ hr1).1, AV.szs_uniform (fun x hx => hz x (List.mem_of_mem_take hx)), List.length_take, Nat.min_eq_left (by omega)]
        obtain ⟨_, ha2⟩ := At.append.1 ha
        obtain ⟨ha3, _⟩ := At.append.1 ha2
        exact ⟨b, off * e', arr, d2, rfl, Ctx.frz_ro hs hk hn hbo hb, FrzL.relF hs hL hr3, by rw [← hl1]; simpa using ha3⟩
  | _, _, .loc (k := k) (ver := ver) (off := off) (i := i) (e := e) (els := els) (p := p) (y := y) hk hn hi ho hp hF, m, cs, hr => by
    simp only [Rel] at hr ⊢
    obtain ⟨b, cap, e', hl, ev⟩ := hr
    have hown := hs.own k _ hk
    obtain ⟨he, hc, arr, ty, ds, x, hb, hsz, hrf, ha, hx, hax, _⟩ := hown.elem hl hi
    subst he
    have hbo : blockOf c k (.arr ver e' els) = some b := by simp [blockOf, AObj.ver, hl]
    obtain ⟨a1, y', b1, ey, hly, hy⟩ := Rel.path p _ _ hx hp
    subst ey
    obtain ⟨_, ha2⟩ := At.append.1 hax
    obtain ⟨ha3, _⟩ := At.append.1 ha2
    exact ⟨b, off, arr, y', ev, Ctx.frz_ro hs hk hn hbo hb, Frz.rel hs hF hy, by rw [ho]; unfold nth; rw [← hly]; simpa using ha3⟩
  | _, _, .agg h, true, cs, hr => by simp only [Rel] at hr ⊢; exact FrzL.relF hs h hr
  | _, _, .agg h, false, cs, hr => by simp only [Rel] at hr ⊢; obtain ⟨arr, e, hr⟩ := hr; exact ⟨arr, e, FrzL.relF hs h hr⟩
  | _, _, .tup h, true, cs, hr => by simp [Rel] at hr
  | _, _, .tup h, false, cs, hr => by simp only [Rel] at hr ⊢; obtain ⟨arr, e, hr⟩ := hr; exact ⟨arr, e, FrzL.relT hs h hr⟩
  | _, _, .sl (fs := fs) (gs := gs) h, m, cs, hr => by
    simp only [Rel] at hr ⊢
    obtain ⟨a, cap, ev, hc, hz, hx⟩ := hr
    have hl := h.len
    refine ⟨a, cap, by rw [← hl]; exact ev, by rw [← hl]; exact hc, h.szAll hz, hx.imp ?_ ?_⟩
    · intro e; subst e; exact List.length_eq_zero_iff.1 (by simpa using hl.symm)
    · rintro ⟨b, off, arr, ds, e1, hb, hd, ha⟩
      exact ⟨b, off, arr, ds, e1, (c.frz_low H n w).ro hb, FrzL.relF hs h hd, ha⟩
  | _, _, .fn h1 h2, m, cs, hr => by
    simp only [Rel] at hr ⊢
    obtain ⟨fv, cv, e, h3, h4⟩ := hr
    exact ⟨fv, cv, e, FrzL.relT hs h1 h3, FrzL.relT hs h2 h4⟩
  | _, _, .nilsl (e := e), m, cs, hr => (Wk.nilsl e).2 _ _ _ (by simpa [Rel] using hr)
theorem FrzL.relF {c : Ctx} {H : Heap} {n n' : Nat} {w : World} (hs : Sim c H n' w) : ∀ {a b : List AV}, FrzL H n a b → ∀ {cs : List Value}, RelF c a cs → RelF (c.frz H n w) b cs
  | _, _, .nil, _, hr => by simpa [RelF] using hr
  | _, _, .cons h1 h2, _, hr => by
    simp only [RelF] at hr ⊢
    obtain ⟨c1, c2, e, h3, h4⟩ := hr
    exact ⟨c1, c2, e, Frz.rel hs h1 h3, FrzL.relF hs h2 h4⟩
theorem FrzL.relT {c : Ctx} {H : Heap} {n n' : Nat} {w : World} (hs : Sim c H n' w) : ∀ {a b : List AV}, FrzL H n a b → ∀ {cs : List Value}, RelT c a cs → RelT (c.frz H n w) b cs
  | _, _, .nil, _, hr => by simpa [RelT] using hr
  | _, _, .cons h1 h2, _, hr => by
    simp only [RelT] at hr ⊢
    obtain ⟨c1, c2, e, h3, h4⟩ := hr
    exact ⟨c1, c2, e, Frz.rel hs h1 h3, FrzL.relT hs h2 h4⟩
end
theorem RelM.low {c c' : Ctx} {n : Nat} (h : c.low c' n) : ∀ (es : List (AV × AV)) (l : List MapEntry), (∀ e ∈ es, e.1.kl n ∧ e.2.kl n) → RelM c es l → RelM c' es l
  | [], _, _, hr => by simpa [RelM] using hr
  | (k, v) :: es, _, hk, hr => by
    simp only [RelM] at hr ⊢
    obtain ⟨e, r, e1, h1, h2, h3⟩ := hr
    have := hk (k, v) (by simp)
    exact ⟨e, r, e1, Rel.low h k _ _ this.1 h1, Rel.low h v _ _ this.2 h2, RelM.low h es _ (fun e he => hk e (by simp [he])) h3⟩
theorem klm_of_rel {c : Ctx} {n : Nat} (hu : c.under n) : ∀ (es : List (AV × AV)) (l : List MapEntry), RelM c es l → ∀ e ∈ es, e.1.kl n ∧ e.2.kl n
  | [], _, _, e, he => by simp at he
  | (k, v) :: es, _, hr, e, he => by
    simp only [RelM] at hr
    obtain ⟨x, r, e1, h1, h2, h3⟩ := hr
    rcases List.mem_cons.1 he with rfl | he
    · exact ⟨kl_of_rel hu _ _ _ h1, kl_of_rel hu _ _ _ h2⟩
    · exact klm_of_rel hu es r h3 e he
theorem OwnOK.kl {c : Ctx} {n k : Nat} {w : World} {o : AObj} (hu : c.under n) (h : OwnOK c k w o) : o.kl n := by
  cases o with
  | arr ver e els =>
    simp only [OwnOK] at h
    obtain ⟨l, _, hm⟩ := h
    cases l with
    | nil => simp only at hm; subst hm; trivial
    | blk b cap e' =>
      obtain ⟨_, _, _, arr, ty, ds, _, _, hr, _⟩ := hm
      exact kls_of_rel hu els _ hr
  | map es =>
    simp only [OwnOK] at h
    obtain ⟨b, cap, e, entries, clock, _, _, hr⟩ := h
    exact klm_of_rel hu es _ hr
theorem OwnOK.low {c c' : Ctx} {n k : Nat} {w : World} {o : AObj} (hl : c.low c' n) (hk : k < n) (hkl : o.kl n) (h : OwnOK c k w o) : OwnOK c' k w o := by
  cases o with
  | arr ver e els =>
    simp only [OwnOK] at h ⊢
    obtain ⟨l, h1, hm⟩ := h
    refine ⟨l, hl.ρ hk h1, ?_⟩
    cases l with
    | nil => exact hm
    | blk b cap e' =>
      obtain ⟨h1, h2, h3, arr, ty, ds, h4, h5, hr, h6⟩ := hm
      exact ⟨h1, h2, h3, arr, ty, ds, h4, h5, RelF.low hl _ _ hkl hr, h6⟩
  | map es =>
    simp only [OwnOK] at h ⊢
    obtain ⟨b, cap, e, entries, clock, h1, h2, hr⟩ := h
    exact ⟨b, cap, e, entries, clock, hl.ρ hk h1, h2, RelM.low hl es _ hkl hr⟩
theorem Step.fin {c0 c : Ctx} {H0 H H' : Heap} {n n' : Nat} {w0 w : World} (hs0 : Sim c0 H0 n w0) (h : Step c0 H0 w0 c H n' w)
    (hlow : ∀ k, k < n → H' k = H k ∧ (H k = H0 k ∨ ∀ o, H k = some o → o.kl n)) (hhigh : ∀ k, n ≤ k → H' k = H0 k) : Step c0 H0 w0 (c.frz H n w) H' n w := by
  have hu : c0.under n := fun k v hk => (hs0.fresh k hk).2 v
  have hnone : ∀ k, n ≤ k → H' k = none := fun k hk => by rw [hhigh k hk]; exact (hs0.fresh k hk).1
  have hkl : ∀ k o, H' k = some o → k < n ∧ H k = some o ∧ o.kl n := fun k o hk => by
    have hkn : k < n := by
      rcases Nat.lt_or_ge k n with h | h
      · exact h
      · rw [hnone k h] at hk; simp at hk
    obtain ⟨h1, h2⟩ := hlow k hkn
    rw [h1] at hk
    refine ⟨hkn, hk, ?_⟩
    rcases h2 with h2 | h2
    · exact (hs0.own k o (by rw [← h2]; exact hk)).kl hu
    · exact h2 o hk
  have hbo : ∀ k o, k < n → blockOf (c.frz H n w) k o = blockOf c k o := fun k o hk => by
    unfold blockOf
    have : (c.frz H n w).ρ k o.ver = c.ρ k o.ver := by show (if k < n then _ else none) = _; rw [if_pos hk]
    rw [this]
  exact {
    le := {
      ρ := fun {k v l} hk => by
        have hkn : k < n := by
          rcases Nat.lt_or_ge k n with h | h
          · exact h
          · rw [hu k v h] at hk; simp at hk
        exact (c.frz_low H n w).ρ hkn (h.le.ρ hk)
      ro := fun hb => (c.frz_low H n w).ro (h.le.ro hb) }
    sim := {
      ro := fun b a hb => by
        simp only [Ctx.frz] at hb
        split at hb
        · rename_i a' hr; cases hb; exact h.sim.ro b _ hr
        · split at hb
          · split at hb
            · rename_i _ _ hw; cases hb; exact ⟨_, _, hw⟩
            · simp at hb
          · simp at hb
      own := fun k o hk => by
        obtain ⟨h1, h2, h3⟩ := hkl k o hk
        exact (h.sim.own k o h2).low (c.frz_low H n w) h1 h3
      sep := fun k o b hk hb => by
        obtain ⟨h1, h2, h3⟩ := hkl k o hk
        rw [hbo k o h1] at hb
        have h4 := h.sim.sep k o b h2 hb
        simp only [Ctx.frz, h4]
        rw [if_neg]
        rintro ⟨k', ver, e, els, hn', hk', hb'⟩
        have := h.sim.inj k k' o _ b h2 hk' hb hb'
        omega
      inj := fun k k' o o' b h1 h2 b1 b2 => by
        obtain ⟨h3, h4, _⟩ := hkl k o h1
        obtain ⟨h5, h6, _⟩ := hkl k' o' h2
        rw [hbo k o h3] at b1
        rw [hbo k' o' h5] at b2
        exact h.sim.inj k k' o o' b h4 h6 b1 b2
      fresh := fun k hk => ⟨hnone k hk, fun v => by show (if k < n then _ else none) = none; rw [if_neg (by omega)]⟩
      vers := fun k o v hk hv => by
        obtain ⟨h3, h4, _⟩ := hkl k o hk
        show (if k < n then c.ρ k v else none) = none
        rw [if_pos h3]
        exact h.sim.vers k o v h4 hv }
    fr := h.fr
    new := fun b ⟨k, o, hk, hb⟩ => by
      obtain ⟨h3, h4, _⟩ := hkl k o hk
      rw [hbo k o h3] at hb
      exact h.new b ⟨k, o, h4, hb⟩ }
theorem ACalls.fin {P : Program} {f : FuncId} {args : List AV} {H : Heap} {n : Nat} {K : ARes → Heap → Nat → Prop}
    (h : ACalls P f args H n fun res H1 n' => ∃ r r' H', res = .val r ∧ (∀ k, k < n → H' k = H1 k ∧ (H1 k = H k ∨ ∀ o, H1 k = some o → o.kl n)) ∧ (∀ k, n ≤ k → H' k = H k) ∧ Frz H1 n r r' ∧ K (.val r') H' n) : ACalls P f args H n K :=
  fun c w vs hs hr => (h c w vs hs hr).mono fun e w' ⟨res, c', H1, n', ⟨r, r', H', hres, hlow, hhigh, hfrz, hK⟩, hst, hm⟩ => by
    subst hres
    refine ⟨.val r', c'.frz H1 n w', H', n, hK, Step.fin hs hst hlow hhigh, ?_⟩
    cases e with
    | returned v => exact Frz.rel hst.sim hfrz hm
    | panicked _ => exact hm.elim
    | outgrown => exact hm.elim
theorem Ret.fin {P : Program} {f : FuncId} {args : List AV} {H : Heap} {n : Nat} {r' : AV}
    (h : ACalls P f args H n fun res H1 n' => ∃ r, res = .val r ∧ (∀ k, k < n → H1 k = H k) ∧ Frz H1 n r r') : Ret P f args H n r' H n :=
  ACalls.fin (h.mono fun res H1 n' ⟨r, hr, hk, hf⟩ => ⟨r, r', H, hr, fun k hkn => ⟨(hk k hkn).symm, .inl (hk k hkn)⟩, fun _ _ => rfl, hf, rfl, rfl, rfl⟩)
section
variable (P : Program) (z : TypeId → AV) (T : Nat → AV) (H H' : Heap) (dst : Option Tmp) (ty : TypeId) (pos : String) (after : Array Edge) (gd : Option (Nat × Bool))
theorem sameC_none : sameC P z T H H' none = True := rfl
theorem sameC_fieldAddr (t : TypeId) (x : Operand) (f : Nat) : sameC P z T H H' (some ⟨dst, .fieldAddr t x f, ty, pos, after, gd⟩) = True := by cases gd <;> exact eq_true fun _ => rfl
theorem sameC_nilCheck (x : Operand) : sameC P z T H H' (some ⟨dst, .nilCheck x, ty, pos, after, gd⟩) = True := by cases gd <;> exact eq_true fun _ => rfl
theorem sameC_binOp (o : BinOp) (t : TypeId) (x y : Operand) (t' : TypeId) : sameC P z T H H' (some ⟨dst, .binOp o t x y t', ty, pos, after, gd⟩) = True := by cases gd <;> exact eq_true fun _ => rfl
theorem sameC_unOp (o : UnOp) (t : TypeId) (x : Operand) : sameC P z T H H' (some ⟨dst, .unOp o t x, ty, pos, after, gd⟩) = True := by cases gd <;> exact eq_true fun _ => rfl
theorem sameC_extract (x : Operand) (i : Nat) : sameC P z T H H' (some ⟨dst, .extract x i, ty, pos, after, gd⟩) = True := by cases gd <;> exact eq_true fun _ => rfl
theorem sameC_convert (s d : TypeId) (x : Operand) : sameC P z T H H' (some ⟨dst, .convert s d x, ty, pos, after, gd⟩) = ∀ g, qConvertH P H' s d (strip g (evO T x)) = qConvertH P H s d (strip g (evO T x)) := by cases gd <;> rfl
theorem sameC_field (t : TypeId) (x : Operand) (f : Nat) : sameC P z T H H' (some ⟨dst, .field t x f, ty, pos, after, gd⟩) = True := by cases gd <;> exact eq_true fun _ => rfl
theorem sameC_index (t : TypeId) (x i : Operand) : sameC P z T H H' (some ⟨dst, .index t x i, ty, pos, after, gd⟩) = True := by cases gd <;> exact eq_true fun _ => rfl
theorem sameC_build (t : TypeId) (p : Array (Nat × Operand)) : sameC P z T H H' (some ⟨dst, .build t p, ty, pos, after, gd⟩) = True := by cases gd <;> exact eq_true fun _ => rfl
theorem sameC_buildSlice (t : TypeId) (k : Nat) (p : Array (Nat × Operand)) : sameC P z T H H' (some ⟨dst, .buildSlice t k p, ty, pos, after, gd⟩) = True := by cases gd <;> exact eq_true fun _ => rfl
theorem sameC_makeFunc (f : Fn) (a b : Array Operand) : sameC P z T H H' (some ⟨dst, .makeFunc f a b, ty, pos, after, gd⟩) = True := by cases gd <;> exact eq_true fun _ => rfl
theorem sameC_pick (c a b : Operand) : sameC P z T H H' (some ⟨dst, .pick c a b, ty, pos, after, gd⟩) = True := by cases gd <;> exact eq_true fun _ => rfl
theorem sameC_move (x : Operand) : sameC P z T H H' (some ⟨dst, .move x, ty, pos, after, gd⟩) = True := by cases gd <;> exact eq_true fun _ => rfl
theorem sameC_assign (x : Operand) : sameC P z T H H' (some ⟨dst, .assign x, ty, pos, after, gd⟩) = True := by cases gd <;> exact eq_true fun _ => rfl
theorem sameC_builtin (b : Builtin) (args : Array Operand) (ts : Array TypeId) : sameC P z T H H' (some ⟨dst, .call ⟨.builtin b, args, ts⟩, ty, pos, after, gd⟩) = True := by cases gd <;> exact eq_true fun _ => rfl
theorem sameC_load (t : TypeId) (x : Operand) : sameC P z T H H' (some ⟨dst, .load t x, ty, pos, after, gd⟩) = ∀ g, qLoad P H' t (strip g (evO T x)) = qLoad P H t (strip g (evO T x)) := by cases gd <;> rfl
theorem sameC_indexAddr (t : TypeId) (x i : Operand) : sameC P z T H H' (some ⟨dst, .indexAddr t x i, ty, pos, after, gd⟩) = ∀ g, qIndexAddr P H' t (strip g (evO T x)) (strip g (evO T i)) = qIndexAddr P H t (strip g (evO T x)) (strip g (evO T i)) := by cases gd <;> rfl
theorem sameC_callf (fo : Operand) (args : List Operand) (ts : Array TypeId) : sameC P z T H H' (some ⟨dst, .call ⟨.value fo, args.toArray, ts⟩, ty, pos, after, none⟩) = ∀ d, dst = some d → CallQ P (strip true (evO T fo)) (args.map fun x => strip true (evO T x)) H' (T d) := rfl
end
attribute [go_sem] sameC_none sameC_fieldAddr sameC_nilCheck sameC_binOp sameC_unOp sameC_extract sameC_convert sameC_field sameC_index sameC_build sameC_buildSlice sameC_makeFunc sameC_pick sameC_move sameC_assign sameC_builtin sameC_load sameC_indexAddr sameC_callf
theorem qLoad_bif (P : Program) (H H' : Heap) (t : TypeId) (c : Bool) (x : AV) : (qLoad P H' t (bif c then x else .junk) = qLoad P H t (bif c then x else .junk)) = (c = true → qLoad P H' t x = qLoad P H t x) := by
  cases c
  · simp [qLoad]
  · simp
theorem qIdx_bif (P : Program) (H H' : Heap) (t : TypeId) (c : Bool) (x i : AV) : (qIndexAddr P H' t (bif c then x else .junk) i = qIndexAddr P H t (bif c then x else .junk) i) = (c = true → qIndexAddr P H' t x i = qIndexAddr P H t x i) := by
  cases c
  · simp [qIndexAddr]
  · simp
attribute [go_sem] qLoad_bif qIdx_bif qConvH_bif
theorem awp_wk_obj {P : Program} {N : Nat} {code : Code} {T : Nat → AV} {H : Heap} {n : Nat} {Q : AEx → (Nat → AV) → Heap → Nat → Prop} (k : Nat) {ver e : Nat} {els els' : List AV} (hk : H k = some (.arr ver e els)) (ha : WkL els els')
    (h : awp P N code T (H.put k (some (.arr ver e els'))) n Q) : awp P N code T H n Q :=
  awp_ghost (fun c w tmps hs hr => by
    have hst := Step.retell (els' := els') hs hk (fun ds hd => ha.relF hd) ha.len.symm ha.szAll
    exact ⟨_, hst, RelTmps.mono hst.le hr⟩) h
attribute [go_sem] implies_true
theorem peel {A B : Prop} (b : B) (a : A := by first | omega | assumption | (simp; done) | (intros; simp_all; done) | decide) : A ∧ B := ⟨a, b⟩
theorem awp_cnd {P : Program} {N : Nat} {T : Nat → AV} {H : Heap} {n : Nat} {Q : AEx → (Nat → AV) → Heap → Nat → Prop} {x : Operand} {s t : Code} {b : Bool} (ht : b = true → awp P N s T H n Q) (hf : b = false → awp P N t T H n Q)
    (hc : evO T x = .bool b := by simp only [go_sem, ↓reduceIte, Nat.reduceEqDiff, Nat.reduceLT, Nat.reduceSub, Nat.reduceAdd, Nat.reduceMul]; rfl) : awp P N (.cond x s t) T H n Q := awp_cond hc ht hf
theorem awp_rq {P : Program} {N id : Nat} {l : List Oper} {y : Code} {T T' : Nat → AV} {H H' : Heap} {n n' : Nat} {Q : AEx → (Nat → AV) → Heap → Nat → Prop} (z : TypeId → AV) (live : List Nat) (k : awp P N y T' H' n' Q)
    (h : ∀ K : (Nat → AV) → Heap → Nat → Prop, K T' H' n' → erun P z N l.toArray l T H n (AThen (fun T' H' n' => K (tsel live T') H' n') Q) := by (intro K hK; simp only [go_sem, ↓reduceIte, Nat.reduceEqDiff, Nat.reduceLT, Nat.reduceSub, Nat.reduceAdd, Nat.reduceMul]; (repeat refine peel ?_); exact hK)) :
    awp P N (.seq (.region id l.toArray false) y) T H n Q := awp_reg z live fun K hK => h K (hK _ _ _ k)
end Go.Sx
namespace Go.Sx
open Go
theorem awp_frz_tmp {P : Program} {N : Nat} {code : Code} {T : Nat → AV} {H : Heap} {n : Nat} {Q : AEx → (Nat → AV) → Heap → Nat → Prop} (t : Tmp) {k ver len esz : Nat} {els : List AV} (hT : T t = .osl k ver 0 len) (hk : H k = some (.arr ver esz els)) (hlen : len = els.length)
    (h : awp P N code (tput T (some t) (.sl esz els)) (H.put k none) n Q) : awp P N code T H n Q :=
  awp_ghost (fun c w tmps hs hr => by
    obtain ⟨c', hst, hfz, _⟩ := Step.freeze hs k ver esz els hk
    refine ⟨c', hst, fun u => ?_⟩
    simp only [tput]
    split
    · rename_i e
      subst e
      have hu := hr u
      rw [hT] at hu
      have := hfz 0 len _ (by omega) hu
      rw [List.drop_zero, List.take_of_length_le (by omega)] at this
      exact this
    · exact Rel.mono hst.le _ _ _ (hr u)) h
end Go.Sx
namespace Go.Sx
open Go
def AV.bare : AV → Prop
  | .int _ _ => True
  | .bool _ => True
  | _ => False
theorem AV.bare.rel {a : AV} (h : a.bare) {c c' : Ctx} {m : Bool} {cs : List Value} (hr : Rel c a m cs) : Rel c' a m cs := by
  cases a <;> simp only [AV.bare] at h <;> (cases m <;> simpa only [Rel] using hr)
theorem Sim.frz0 {c : Ctx} {H : Heap} {n : Nat} {w : World} (hs : Sim c H n w) : Sim (c.frz H 0 w) (fun _ => none) 0 w where
  ro := fun b a hb => by
    simp only [Ctx.frz] at hb
    split at hb
    · rename_i a' hr; cases hb; exact hs.ro b _ hr
    · split at hb
      · split at hb
        · rename_i _ _ hw; cases hb; exact ⟨_, _, hw⟩
        · simp at hb
      · simp at hb
  own := fun k o hk => by simp at hk
  sep := fun k o b hk => by simp at hk
  inj := fun k k' o o' b hk => by simp at hk
  fresh := fun k _ => ⟨rfl, fun v => by show (if k < 0 then c.ρ k v else none) = none; rw [if_neg (by omega)]⟩
  vers := fun k o v hk => by simp at hk
theorem Ret.lend {P : Program} {f : FuncId} {args args' : List AV} {H : Heap} {n : Nat} {r : AV} (hb : r.bare) (hL : FrzL H 0 args args') (h : Ret P f args' (fun _ => none) 0 r (fun _ => none) 0) : Ret P f args H n r H n :=
  fun c w vs hs hr => (h (c.frz H 0 w) w vs hs.frz0 (FrzL.relT hs hL hr)).mono fun e w' ⟨res, c', H', n', ⟨hres, hH, hn⟩, hst, hm⟩ => by
    subst hres; subst hH; subst hn
    have hkeep : ∀ b, b < w.heap.size → w'.heap[b]? = w.heap[b]? := fun b hb => hst.fr.keep b hb fun ⟨k, o, hk, _⟩ => by simp at hk
    refine ⟨.val r, c, H, n, ⟨rfl, rfl, rfl⟩, ?_, ?_⟩
    · exact {
        le := .refl _
        sim := {
          ro := fun b a hb => by
            obtain ⟨ty, fr, hw⟩ := hs.ro b a hb
            refine ⟨ty, fr, ?_⟩
            rw [hkeep b ?_]
            · exact hw
            · rcases Nat.lt_or_ge b w.heap.size with h | h
              · exact h
              · rw [Array.getElem?_eq_none h] at hw; simp at hw
          own := fun k o hk => (hs.own k o hk).mono (.refl _) fun b hb => hkeep b ((hs.own k o hk).lt hb)
          sep := hs.sep
          inj := hs.inj
          fresh := hs.fresh
          vers := hs.vers }
        fr := { os := hst.fr.os, tape := hst.fr.tape, output := hst.fr.output, size := hst.fr.size, keep := fun b hb _ => hkeep b hb }
        new := fun b hb => .inl hb }
    · cases e with
      | returned v => exact hb.rel hm
      | panicked _ => exact hm.elim
      | outgrown => exact hm.elim
end Go.Sx
namespace Go.Sx
open Go
def AppO (ver off len s by' : Nat) (kk : Nat) (H : Heap) (n : Nat) (C : Prop) (eo : Option Nat) (ys : List AV) (k : AV → Heap → Nat → Prop) : Option AObj → Prop
  | some (.arr ver' esz els) => (ver = ver' ∧ off = 0 ∧ len = els.length ∧ esz = s ∧ C ∧ (eo = none ∨ eo = some s) ∧ 0 < ys.length ∧ (len + ys.length) * by' ≤ 140737488355328 ∧ len + ys.length ≤ 4611686018427387904) ∧
      k (.osl kk ver 0 (len + ys.length)) (H.put kk (some (.arr ver esz (els ++ ys)))) n ∧ k (.osl n 0 0 (len + ys.length)) (H.put n (some (.arr 0 esz (els ++ ys)))) (n + 1)
  | _ => False
def AppD (H : Heap) (n : Nat) (k : AV → Heap → Nat → Prop) : AV → Option (Nat × Nat) → Option (Prop × Option Nat × List AV) → Prop
  | .nilsl, some (s, by'), some (C, eo, ys) => (C ∧ (eo = none ∨ eo = some s) ∧ ys.length * by' ≤ 140737488355328 ∧ ys.length ≤ 4611686018427387904) ∧ k (.osl n 0 0 ys.length) (H.put n (some (.arr 0 s ys))) (n + 1)
  | .osl kk ver off len, some (s, by'), some (C, eo, ys) => AppO ver off len s by' kk H n C eo ys k (H kk)
  | _, _, _ => False
theorem ot_appD {P : Program} {H : Heap} {n : Nat} {dst : Option Tmp} {t : TypeId} {x y : Operand} {ty : TypeId} {pos : String} {after : Array Edge} {guard : Option (Nat × Bool)} {ε : Operand → AV} {k : AV → Heap → Nat → Prop}
    (h : AppD H n k (ε x) (tEl P t) (slcO H (ε y))) : OpT P ⟨dst, .call ⟨.builtin .append, #[x, y], #[t, t]⟩, ty, pos, after, guard⟩ ε H n (fun res H' n' => match res with | .val r => k r H' n' | .pan _ => False) :=
  OpT.of_run fun c w ρv hs hr => by
    have hx := hr x (by simp [Op.operands, Call.operands])
    have hy := hr y (by simp [Op.operands, Call.operands])
    have hexec : ∀ v w', (Builtin.append_ #[t, t] ty #[ρv x, ρv y]).run P w = .ok v w' → (execOp ρv ⟨dst, .call ⟨.builtin .append, #[x, y], #[t, t]⟩, ty, pos, after, guard⟩).run P w = .ok (.value v) w' := fun v w' hh => by
      simp [execOp, resolve, invoke, builtin, hh]
    generalize ε x = xa at h hx
    cases ht : tEl P t with
    | none => rw [ht] at h; cases xa <;> simp [AppD] at h
    | some sb =>
    obtain ⟨s, by'⟩ := sb
    cases hsl : slcO H (ε y) with
    | none => rw [hsl, ht] at h; cases xa <;> simp [AppD] at h
    | some q =>
    obtain ⟨Cy, eo, ys⟩ := q
    rw [hsl, ht] at h
    obtain ⟨e, i, z, hu, hi, hz, hzs, hpos, hsz, hby⟩ := tEl_spec ht
    have hyzG : ∀ (c2 : eo = none ∨ eo = some s) (hzz : ∀ x ∈ ys, ∀ e, eo = some e → x.sz = e), ∀ u ∈ ys, u.sz = s := fun c2 hzz u hu => by
      rcases c2 with c2 | c2
      · subst c2
        unfold slcO at hsl
        split at hsl
        · simp at hsl; rw [hsl.2] at hu; simp at hu
        · simp at hsl
        · unfold slcO.slcA at hsl; split at hsl <;> simp at hsl
        · simp at hsl
      · exact hzz u hu s c2
    cases xa <;> simp only [AppD] at h
    · -- the nil slice
      obtain ⟨⟨c1, c2, c3, c4⟩, hK⟩ := h
      obtain ⟨a, cap, ds, ev, hrf, hzz, hcase⟩ := slcO_spec hs hy hsl c1
      simp only [Rel, List.cons.injEq, and_true] at hx
      have hyz := hyzG c2 hzz
      have hdl : ds.length = ys.length * i.size := by rw [(RelF.len _ _ hrf).1, AV.szs_uniform hyz, hsz]
      by_cases h0 : ys = []
      · subst h0
        refine ⟨_, .slice none 0 0, _, _, _, w, .inl (hexec _ _ ?_), Step.newNil hs s, ?_, hK⟩
        · rw [hx, ev]; exact run_append_zero hu hi none a 0 0 cap (Nat.le_refl _)
        · simp only [Rel]; exact ⟨.nil, Ctx.addLoc_same, by simp⟩
      · obtain ⟨ad, rfl, hcells⟩ := hcase.resolve_left (fun h => h0 h.2)
        have hlen : 0 < ys.length := List.length_pos_iff.2 h0
        have hrun := run_append_nil (P := P) w t ty e i z hu hi hz ad ys.length cap ds hdl hcells hlen (by omega) (by rw [hby]; omega)
        have hgc := grownCap_ge w ys.length 0 e
        have hst := Step.newOwn (Step.drewAlloc hs) (ds.toArray ++ Builtin.zeroCells z.cells (grownCap w ys.length 0 e - ys.length)) e (grownCap w ys.length 0 e) s ys ds hyz hgc
          (by simp only [Array.size_append, List.size_toArray, size_zeroCells, hzs, hdl, hsz]; rw [← Nat.add_mul]; congr 1; omega) hrf (At.zero.2 ⟨_, by simp; rfl⟩)
        refine ⟨_, _, _, _, _, _, .inl (hexec _ _ (by rw [hx, ev]; exact hrun)), (Step.drew hs).trans hst, ?_, hK⟩
        simp only [Rel]
        exact ⟨_, Ctx.addLoc_same, grownCap w ys.length 0 e, 0, hgc, by simp, .inr (by simp), rfl⟩
    · -- an owned slice
      rename_i kk ver off len
      unfold AppO at h
      split at h
      · rename_i ver' esz els hk
        obtain ⟨⟨d1, d2, d3, d4, c1, c2, c0, c3, c4⟩, hK1, hK2⟩ := h
        subst d1; subst d2; subst d4; subst d3
        obtain ⟨a, cap, ds, ev, hrf, hzz, hcase⟩ := slcO_spec hs hy hsl c1
        have hyz := hyzG c2 hzz
        have hdl : ds.length = ys.length * i.size := by rw [(RelF.len _ _ hrf).1, AV.szs_uniform hyz, hsz]
        simp only [Rel, List.cons.injEq, and_true] at hx
        obtain ⟨l, hl, hm⟩ := hx
        have ho := hs.own kk _ hk
        simp only [OwnOK] at ho
        obtain ⟨l', hl', hm'⟩ := ho
        rw [hl] at hl'; cases hl'
        have hys0 : ys ≠ [] := fun h => by rw [h] at c0; simp at c0
        obtain ⟨ad, rfl, hcells⟩ := hcase.resolve_left (fun h => hys0 h.2)
        have helems : ∀ u ∈ els ++ ys, u.sz = esz := fun u hu => by
          rcases List.mem_append.1 hu with h | h
          · cases l with
            | nil => simp only at hm'; subst hm'; simp at h
            | blk b cp e' => exact hm'.2.1 u h
          · exact hyz u h
        have hlen' : (els ++ ys).length = els.length + ys.length := by simp
        cases l with
        | nil =>
          obtain ⟨_, h2, evx⟩ := hm
          simp only at hm'
          subst hm'
          have hrun := run_append_nil (P := P) w t ty e i z hu hi hz ad ys.length cap ds hdl hcells c0 (by simp at c4; omega) (by rw [hby]; simp at c3; omega)
          have hgc := grownCap_ge w ys.length 0 e
          have hst := Step.newOwn (Step.drewAlloc hs) (ds.toArray ++ Builtin.zeroCells z.cells (grownCap w ys.length 0 e - ys.length)) e (grownCap w ys.length 0 e) esz (([] : List AV) ++ ys) ds (by simpa using hyz) (by simpa using hgc)
            (by simp only [Array.size_append, List.size_toArray, size_zeroCells, hzs, hdl, hsz]; rw [← Nat.add_mul]; congr 1; omega) (by simpa using hrf) (At.zero.2 ⟨_, by simp; rfl⟩)
          refine ⟨_, _, _, _, _, _, .inl (hexec _ _ (by rw [evx, ev]; exact hrun)), (Step.drew hs).trans hst, ?_, hK2⟩
          simp only [Rel]
          exact ⟨_, Ctx.addLoc_same, grownCap w ys.length 0 e, 0, by simpa using hgc, by simp, .inr (by simp), by simp⟩
        | blk b cp e' =>
          obtain ⟨cp', o', h1, h2, h3, evx⟩ := hm
          obtain ⟨he, hze, hcl, arr, tyb, olds, hb, hasz, hrfe, ha⟩ := hm'
          subst he
          have hol : olds.length = els.length * i.size := by rw [(RelF.len _ _ hrfe).1, AV.szs_uniform hze, hsz]
          obtain ⟨post, hp⟩ := At.zero.1 ha
          have holds : ∀ j v, olds[j]? = some v → w.cell? ((⟨b, 0, none⟩ : Addr).add j) = some v := fun j v hj => by
            rw [Addr.add_plain, Nat.zero_add]
            simp only [World.cell?, hb]
            have := ha j v hj
            simpa using this
          have hbo : blockOf c kk (.arr ver e' els) = some b := by simp [blockOf, AObj.ver, hl]
          by_cases hroom : els.length + ys.length ≤ cp'
          · -- room: in place
            have eo' : o' = 0 := by rcases h3 with h3 | h3 <;> omega
            subst eo'
            have hone := (RelF.len _ _ hrf).2
            have hsize : arr.size = arr.toList.length := by simp
            have hfit : els.length * i.size + ds.length ≤ arr.size := by
              rw [hdl, hasz, ← Nat.add_mul, ← hsz]; exact Nat.mul_le_mul_right _ (by omega)
            have hrun := run_append_room' (P := P) (ty := ty) (c := cap) hu hi hb hdl hcells hone hroom hfit
            have htake : arr.toList.take (els.length * i.size) = olds := by rw [hp, ← hol, List.take_left]
            rw [htake] at hrun
            have hwb : ∀ b' cs, b' ≠ b → (w.setRow b cs).heap[b']? = w.heap[b']? := fun b' cs hb' => setRow_other w b b' _ hb'
            have hst := Step.write (w' := w.setRow b (olds ++ ds ++ List.drop (els.length * i.size + ds.length) arr.toList).toArray) hs kk (.arr ver e' els) (.arr ver e' (els ++ ys)) hk rfl ⟨rfl, rfl, rfl, by simp [World.setRow], fun b' _ hS => hwb b' _ fun e => hS ⟨kk, _, hk, by rw [e]; exact hbo⟩⟩
              (fun k'' o'' b' hne hk' hb' => hwb b' _ fun e => hne (hs.inj k'' kk o'' _ b hk' hk (by rw [← e]; exact hb') hbo))
              (fun b' a' hb' => hwb b' _ fun e => by have := hs.sep kk _ b hk hbo; rw [← e, hb'] at this; simp at this) (by
                simp only [OwnOK]
                refine ⟨_, hl, rfl, helems, by rw [hlen']; omega, _, tyb, olds ++ ds, setRow_heap w b arr _ tyb _ hb, ?_, RelF.append.2 ⟨_, _, rfl, hrfe, hrf⟩, At.zero.2 ⟨arr.toList.drop (els.length * i.size + ds.length), by simp⟩⟩
                rw [← hasz]
                simp only [List.size_toArray, List.length_append, List.length_drop, hol, Array.length_toList]
                omega)
            refine ⟨_, _, _, _, _, _, .inl (hexec _ _ (by rw [evx, ev]; exact hrun)), hst, ?_, hK1⟩
            simp only [Rel]
            exact ⟨_, hl, cp', 0, hroom, by simpa using h2, .inr (by simp), rfl⟩
          · -- no room: a new block
            have hrunG : ∀ bb : Addr, (∀ j v, olds[j]? = some v → w.cell? (bb.add j) = some v) → (Builtin.append_ #[t, t] ty #[.slice (some bb) els.length cp', .slice (some ad) ys.length cap]).run P w = _ := fun bb hbb =>
              run_append_grow (P := P) w t ty e i z hu hi hz bb els.length cp' olds hol hbb ad ys.length cap ds hdl hcells (by omega) (by omega) (growslice_fits (by omega) (by rw [hby]; exact c3))
            have hgc := grownCap_ge w (els.length + ys.length) cp' e
            have hst := Step.newOwn (Step.drewAlloc hs) (olds.toArray ++ ds.toArray ++ Builtin.zeroCells z.cells (grownCap w (els.length + ys.length) cp' e - (els.length + ys.length))) e (grownCap w (els.length + ys.length) cp' e) e' (els ++ ys) (olds ++ ds)
              helems (by rw [hlen']; exact hgc) (by simp only [Array.size_append, List.size_toArray, size_zeroCells, hzs, hol, hdl, hsz]; rw [← Nat.add_mul, ← Nat.add_mul]; congr 1; omega) (RelF.append.2 ⟨_, _, rfl, hrfe, hrf⟩) (At.zero.2 ⟨_, by simp; rfl⟩)
            have hbb : ∀ j v, olds[j]? = some v → w.cell? ((⟨b, o', none⟩ : Addr).add j) = some v := by
              rcases h3 with h3 | h3
              · have : els.length = 0 := by omega
                have : olds = [] := List.eq_nil_of_length_eq_zero (by rw [hol, this]; simp)
                subst this
                intro j v hj; simp at hj
              · rw [h3, Nat.zero_mul]; exact holds
            refine ⟨_, _, _, _, _, _, .inl (hexec _ _ (by rw [evx, ev]; exact hrunG _ hbb)), (Step.drew hs).trans hst, ?_, hK2⟩
            simp only [Rel]
            exact ⟨_, Ctx.addLoc_same, grownCap w (els.length + ys.length) cp' e, 0, hgc, by simp, .inr (by simp), rfl⟩
      · exact h.elim
    all_goals exact h.elim
section
variable {P : Program} {z : TypeId → AV} {N : Nat} {ops : Array Oper} {T : Nat → AV} {H : Heap} {n : Nat} {Q : AEx → (Nat → AV) → Heap → Nat → Prop}
theorem erun_before {l2 : List Oper} {Q1 : AEx → (Nat → AV) → Heap → Nat → Prop} (h2 : ∀ T H n, Q1 .normal T H n → lrun P N ops l2 T H n Q) (hp2 : ∀ p T H n, Q1 (.pan p) T H n → Q (.pan p) T H n) : ∀ (l : List Oper) (T : Nat → AV) (H : Heap) (n : Nat), erun P z N ops l T H n Q1 → lrun P N ops (l ++ l2) T H n Q
  | [], T, H, n, h => h2 T H n h
  | ⟨dst, op, ty, pos, after, none⟩ :: os, T, H, n, h => fun c w a hs hr hN hd => by
    unfold erun at h
    obtain ⟨hdst, h⟩ := h
    have hw : Region.wanted ⟨dst, op, ty, pos, after, none⟩ (yielded ops a.tmps) = true := wanted_none rfl
    have hε : ∀ x ∈ op.operands, Rel c (evO T x) false [a.eval x] := fun x _ => evO_rel hr x
    split at h
    · cases hq : opQ P z H true T op with
      | none => rw [hq] at h; exact h.elim
      | some p =>
        obtain ⟨C, r⟩ := p
        rw [hq] at h
        obtain ⟨hC, h⟩ := h
        exact lrun_step (k := fun r' H' n' => r' = r ∧ H' = H ∧ n' = n) (kp := fun _ _ _ => False) hdst (OpT.of_qt (opQ_sound hq rfl hC) ⟨rfl, rfl, rfl⟩) hs hr hN hd hw hε id (fun _ _ _ h => h)
          (by rintro _ _ _ ⟨rfl, rfl, rfl⟩; exact erun_before h2 hp2 os _ _ _ h) (fun _ _ _ h => h.elim)
    · cases hq : opW P z H n T op with
      | none => rw [hq] at h; exact h.elim
      | some p =>
        obtain ⟨C, r, H', n'⟩ := p
        rw [hq] at h
        obtain ⟨hC, h⟩ := h
        exact lrun_step (k := fun r2 H2 n2 => r2 = r ∧ H2 = H' ∧ n2 = n') (kp := fun _ _ _ => False) hdst (opW_sound hq hC ⟨rfl, rfl, rfl⟩) hs hr hN hd hw hε id (fun _ _ _ h => h)
          (by rintro _ _ _ ⟨rfl, rfl, rfl⟩; exact erun_before h2 hp2 os _ _ _ h) (fun _ _ _ h => h.elim)
    · rename_i fo args hcl
      unfold opClass at hcl
      split at hcl
      all_goals first
        | (simp at hcl; done)
        | (split at hcl <;> simp at hcl; done)
        | (simp only [OpClass.c.injEq] at hcl
           obtain ⟨rfl, rfl⟩ := hcl
           exact lrun_step hdst (OpT.call h) hs hr hN hd hw hε id (fun _ _ _ h => h) (fun r H' n' hk => erun_before h2 hp2 os _ _ _ hk) (fun _ _ _ h => hp2 _ _ _ _ h))
  | ⟨dst, op, ty, pos, after, some (j, b)⟩ :: os, T, H, n, h => fun c w a hs hr hN hd => by
    unfold erun at h
    obtain ⟨hdst, h⟩ := h
    cases ht : gtmp ops j with
    | none => rw [ht] at h; exact h.elim
    | some t =>
      rw [ht] at h
      simp only [Option.bind_some] at h
      cases hgv : gval (T t) b with
      | none => rw [hgv] at h; exact h.elim
      | some g =>
        rw [hgv] at h
        have hwg : Region.wanted ⟨dst, op, ty, pos, after, some (j, b)⟩ (yielded ops a.tmps) = g := gval_spec hr rfl ht hgv
        simp only [contB] at h
        have hε : ∀ x ∈ op.operands, Rel c (evO T x) false [a.eval x] := fun x _ => evO_rel hr x
        split at h
        · cases hq : opQ P z H g T op with
          | none =>
            rw [hq] at h
            obtain ⟨hg, h⟩ := h
            rw [hg] at hwg h
            exact lrun_skip hdst hs hr hN hd hwg _ (erun_before h2 hp2 os _ _ _ h)
          | some p =>
            obtain ⟨C, r⟩ := p
            rw [hq] at h
            obtain ⟨hC, h⟩ := h
            cases g with
            | true =>
              exact lrun_step (k := fun r' H' n' => r' = r ∧ H' = H ∧ n' = n) (kp := fun _ _ _ => False) hdst (OpT.of_qt (opQ_sound hq rfl (hC rfl)) ⟨rfl, rfl, rfl⟩) hs hr hN hd hwg hε (.opt true) (fun _ _ _ h => opt_rel rfl h)
                (by rintro _ _ _ ⟨rfl, rfl, rfl⟩; exact erun_before h2 hp2 os _ _ _ h) (fun _ _ _ h => h.elim)
            | false => exact lrun_skip hdst hs hr hN hd hwg _ (erun_before h2 hp2 os _ _ _ h)
        · cases g with
          | true =>
            have h := h.1 rfl
            cases hq : opW P z H n T op with
            | none => rw [hq] at h; exact h.elim
            | some p =>
              obtain ⟨C, r, H', n'⟩ := p
              rw [hq] at h
              obtain ⟨hC, h⟩ := h
              exact lrun_step (k := fun r2 H2 n2 => r2 = r ∧ H2 = H' ∧ n2 = n') (kp := fun _ _ _ => False) hdst (opW_sound hq hC ⟨rfl, rfl, rfl⟩) hs hr hN hd hwg hε id (fun _ _ _ h => h)
                (by rintro _ _ _ ⟨rfl, rfl, rfl⟩; exact erun_before h2 hp2 os _ _ _ h) (fun _ _ _ h => h.elim)
          | false => exact lrun_skip hdst hs hr hN hd hwg _ (erun_before h2 hp2 os _ _ _ (h.2 rfl))
        · rename_i fo args hcl
          unfold opClass at hcl
          split at hcl
          all_goals first
            | (simp at hcl; done)
            | (split at hcl <;> simp at hcl; done)
            | (simp only [OpClass.c.injEq] at hcl
               obtain ⟨rfl, rfl⟩ := hcl
               cases g with
               | true =>
                 exact lrun_step hdst (OpT.call (ε := fun x => strip true (evO T x)) (h.1 rfl)) hs hr hN hd hwg (fun x hx => strip_rel rfl (hε x hx)) (.opt true) (fun _ _ _ h => opt_rel rfl h) (fun r H' n' hk => erun_before h2 hp2 os _ _ _ hk) (fun _ _ _ h => hp2 _ _ _ _ h)
               | false =>
                 obtain ⟨r, h⟩ := h.2 rfl
                 exact lrun_skip hdst hs hr hN hd hwg _ (erun_before h2 hp2 os _ _ _ h))
end
theorem awp_reg_app {P : Program} {N id : Nat} {l : List Oper} {y : Code} {T : Nat → AV} {H : Heap} {n : Nat} {Q : AEx → (Nat → AV) → Heap → Nat → Prop} (z : TypeId → AV) (live : List Nat) (i : Nat) {dst : Option Tmp} {t : TypeId} {xo yo : Operand} {ty : TypeId} {pos : String} {after : Array Edge}
    (ho : l = l.take i ++ ⟨dst, .call ⟨.builtin .append, #[xo, yo], #[t, t]⟩, ty, pos, after, none⟩ :: l.drop (i + 1)) (hd : dOK N dst)
    (h : ∀ K : (Nat → AV) → Heap → Nat → Prop, (∀ T H n, awp P N y T H n Q → K T H n) →
      erun P z N l.toArray (l.take i) T H n (AThen (fun T1 H1 n1 => AppD H1 n1 (fun r H2 n2 => erun P z N l.toArray (l.drop (i + 1)) (tput T1 dst r) H2 n2 (AThen (fun T' H' n' => K (tsel live T') H' n') Q)) (evO T1 xo) (tEl P t) (slcO H1 (evO T1 yo))) Q)) :
    awp P N (.seq (.region id l.toArray false) y) T H n Q := by
  refine awp_seq ?_
  have key : lrun P N l.toArray l T H n (AThen (fun T' H' n' => awp P N y (tsel live T') H' n' Q) Q) := by
    have h1 := h (fun T H n => awp P N y T H n Q) (fun _ _ _ h => h)
    have : lrun P N l.toArray (l.take i ++ ⟨dst, .call ⟨.builtin .append, #[xo, yo], #[t, t]⟩, ty, pos, after, none⟩ :: l.drop (i + 1)) T H n (AThen (fun T' H' n' => awp P N y (tsel live T') H' n' Q) Q) := by
      refine erun_before ?_ ?_ _ _ _ _ h1
      · intro T1 H1 n1 hA c w a hs hr hN hdf
        have hA := hA
        simp only [AThen] at hA
        exact lrun_step (o := ⟨dst, .call ⟨.builtin .append, #[xo, yo], #[t, t]⟩, ty, pos, after, none⟩) (kp := fun _ _ _ => False) hd ((ot_appD (ε := evO T1) hA).mono fun r H n hk => by cases r <;> exact hk) hs hr hN hdf (wanted_none rfl) (fun x _ => evO_rel hr x) (fun x => x) (fun _ _ _ h => h)
          (fun r H' n' hk => erun_sound _ _ _ _ hk) (fun _ _ _ h => h.elim)
      · intro p T H n h; exact h
    rw [← ho] at this
    exact this
  have hr : awp P N (.region id l.toArray false) T H n (AThen (fun T' H' n' => awp P N y (tsel live T') H' n' Q) Q) := fun c w a hs hr hN hd => wp_region_list (by simpa using key c w a hs hr hN hd)
  exact hr.mono fun e T' H' n' hq => by
    cases e <;> first | exact awp_sel live hq | exact hq
theorem awp_reg_app1 {P : Program} {N id : Nat} {l : List Oper} {T : Nat → AV} {H : Heap} {n : Nat} {Q : AEx → (Nat → AV) → Heap → Nat → Prop} (z : TypeId → AV) (live : List Nat) (i : Nat) {dst : Option Tmp} {t : TypeId} {xo yo : Operand} {ty : TypeId} {pos : String} {after : Array Edge}
    (ho : l = l.take i ++ ⟨dst, .call ⟨.builtin .append, #[xo, yo], #[t, t]⟩, ty, pos, after, none⟩ :: l.drop (i + 1)) (hd : dOK N dst)
    (h : ∀ K : (Nat → AV) → Heap → Nat → Prop, (∀ T H n, Q .normal T H n → K T H n) →
      erun P z N l.toArray (l.take i) T H n (AThen (fun T1 H1 n1 => AppD H1 n1 (fun r H2 n2 => erun P z N l.toArray (l.drop (i + 1)) (tput T1 dst r) H2 n2 (AThen (fun T' H' n' => K (tsel live T') H' n') Q)) (evO T1 xo) (tEl P t) (slcO H1 (evO T1 yo))) Q)) :
    awp P N (.region id l.toArray false) T H n Q := by
  have key : lrun P N l.toArray l T H n (AThen (fun T' H' n' => Q .normal (tsel live T') H' n') Q) := by
    have h1 := h (fun T H n => Q .normal T H n) (fun _ _ _ h => h)
    have : lrun P N l.toArray (l.take i ++ ⟨dst, .call ⟨.builtin .append, #[xo, yo], #[t, t]⟩, ty, pos, after, none⟩ :: l.drop (i + 1)) T H n (AThen (fun T' H' n' => Q .normal (tsel live T') H' n') Q) := by
      refine erun_before ?_ ?_ _ _ _ _ h1
      · intro T1 H1 n1 hA c w a hs hr hN hdf
        have hA := hA
        simp only [AThen] at hA
        exact lrun_step (o := ⟨dst, .call ⟨.builtin .append, #[xo, yo], #[t, t]⟩, ty, pos, after, none⟩) (kp := fun _ _ _ => False) hd ((ot_appD (ε := evO T1) hA).mono fun r H n hk => by cases r <;> exact hk) hs hr hN hdf (wanted_none rfl) (fun x _ => evO_rel hr x) (fun x => x) (fun _ _ _ h => h)
          (fun r H' n' hk => erun_sound _ _ _ _ hk) (fun _ _ _ h => h.elim)
      · intro p T H n h; exact h
    rw [← ho] at this
    exact this
  have hr : awp P N (.region id l.toArray false) T H n (AThen (fun T' H' n' => Q .normal (tsel live T') H' n') Q) := fun c w a hs hr hN hd => wp_region_list (by simpa using key c w a hs hr hN hd)
  exact awp_postsel live hr
theorem AppD_nil (H : Heap) (n : Nat) (k : AV → Heap → Nat → Prop) (s by' : Nat) (C : Prop) (eo : Option Nat) (ys : List AV) : AppD H n k .nilsl (some (s, by')) (some (C, eo, ys)) = ((C ∧ (eo = none ∨ eo = some s) ∧ ys.length * by' ≤ 140737488355328 ∧ ys.length ≤ 4611686018427387904) ∧ k (.osl n 0 0 ys.length) (H.put n (some (.arr 0 s ys))) (n + 1)) := rfl
theorem AppD_osl (H : Heap) (n : Nat) (k : AV → Heap → Nat → Prop) (kk ver off len s by' : Nat) (C : Prop) (eo : Option Nat) (ys : List AV) : AppD H n k (.osl kk ver off len) (some (s, by')) (some (C, eo, ys)) = AppO ver off len s by' kk H n C eo ys k (H kk) := rfl
def AppK (k : AV → Heap → Nat → Prop) (H : Heap) (n kk ver esz len : Nat) (els ys : List AV) : Prop :=
  k (.osl kk ver 0 (len + ys.length)) (H.put kk (some (.arr ver esz (els ++ ys)))) n ∧ k (.osl n 0 0 (len + ys.length)) (H.put n (some (.arr 0 esz (els ++ ys)))) (n + 1)
theorem AppO_some2 (ver off len s by' kk : Nat) (H : Heap) (n : Nat) (C : Prop) (eo : Option Nat) (ys : List AV) (k : AV → Heap → Nat → Prop) (ver' esz : Nat) (els : List AV) : AppO ver off len s by' kk H n C eo ys k (some (.arr ver' esz els)) = ((ver = ver' ∧ off = 0 ∧ len = els.length ∧ esz = s ∧ C ∧ (eo = none ∨ eo = some s) ∧ 0 < ys.length ∧ (len + ys.length) * by' ≤ 140737488355328 ∧ len + ys.length ≤ 4611686018427387904) ∧
      AppK k H n kk ver esz len els ys) := rfl
theorem AppK.all {k : AV → Heap → Nat → Prop} {H : Heap} {n kk ver esz len : Nat} {els ys : List AV} (hkk : kk < n)
    (h : ∀ gk gv H2 n2, n ≤ n2 → gk < n2 → (gk = kk ∨ n ≤ gk) → H2 gk = some (.arr gv esz (els ++ ys)) → (H2 kk = some (.arr ver esz els) ∨ H2 kk = some (.arr ver esz (els ++ ys))) → (∀ j, j < n → j ≠ kk → H2 j = H j) → k (.osl gk gv 0 (len + ys.length)) H2 n2)
    (hH : H kk = some (.arr ver esz els)) : AppK k H n kk ver esz len els ys := by
  refine ⟨h _ _ _ _ (Nat.le_refl _) hkk (.inl rfl) (Heap.put_same _ _ _) (.inr (Heap.put_same _ _ _)) (fun j _ hj => Heap.put_ne _ _ hj), h _ _ _ _ (by omega) (by omega) (.inr (Nat.le_refl _)) (Heap.put_same _ _ _) (.inl ?_) (fun j hn hj => Heap.put_ne _ _ (by omega))⟩
  rw [Heap.put_ne _ _ (by omega)]; exact hH
attribute [go_sem] AppD_nil AppD_osl AppO_some2 List.drop_succ_cons List.drop_zero List.drop_nil
end Go.Sx
namespace Go.Sx
open Go
def pwB (ps : List Nat) : List Nat → Bool
  | [] => true
  | a :: l => (l.all fun b => decide (ps.getD a 0 < ps.getD b 0)) && pwB ps l
theorem pwB_spec {ps : List Nat} : ∀ {l : List Nat}, pwB ps l = true → l.Pairwise fun a b => ps.getD a 0 < ps.getD b 0
  | [], _ => .nil
  | a :: l, h => by
    rw [pwB, Bool.and_eq_true] at h
    exact .cons (fun b hb => of_decide_eq_true (List.all_eq_true.1 h.1 b hb)) (pwB_spec h.2)
def incP (l : List Oper) (b : List Nat) (ps : List Nat) (j q : Nat) : Bool :=
  match l[q]? with
  | none => false
  | some oq => decide (ps.getD q 0 < ps.getD j 0) && disj oq.dst.toList (looksL l oq) &&
    (List.range l.length).all fun p => !decide (ps.getD p 0 < ps.getD j 0) || (p == q || isAnc b p q || (match l[p]? with | some op => disj op.dst.toList (looksL l oq ++ oq.dst.toList) | none => true))
def dcheckP (l : List Oper) (N : Nat) (ks : List DK) (ord ps : List Nat) : Bool :=
  let b := ancs [] l
  ks.length == l.length &&
  (l.zipIdx.all fun (o, i) => (edgesOf o).all fun e => decide (e < i)) &&
  ((l.zip ks).zipIdx.all fun ((oj, kj), j) =>
    (match kj with | .w inc => inc.all fun q => incP l b ps j q | _ => true) &&
    ((l.zip ks).zipIdx).all fun ((oi, ki), i) => !decide (ps.getD i 0 < ps.getD j 0) || (isAnc b i j || (pairB l N i j oi oj ki kj && (selfB l oi || ki.isW)))) &&
  ord.all (fun i => decide (i < l.length)) && (List.range l.length).all (fun i => ord.contains i) && pwB ps ord &&
  (l.zipIdx.all fun (o, i) => (edgesOf o).all fun e => decide (ps.getD e 0 < ps.getD i 0)) && ord.length == l.length
section
variable {P : Program} {z : TypeId → AV} {N : Nat} {ops : Array Oper}
theorem frontP (pos : Nat → Nat) {Q : AEx → (Nat → AV) → Heap → Nat → Prop} (hpan : ∀ p T T' H n, Q (.pan p) T H n → Q (.pan p) T' H n) (j : Nat) (kj : DK) :
    ∀ (m : Nat) (pre : List (Nat × DK × List Nat)) (I : List Nat) (post : List (Nat × DK × List Nat)) (T : Nat → AV) (H : Heap) (n : Nat), pre.length = m →
      (∀ p ∈ pre, ∀ x ∈ p.2.2, x ∈ p.2.1.inc) → (∀ p ∈ pre, PairOK ops N p.1 p.2.1 j kj) → (kj.isW = true → ∀ p ∈ pre, p.2.1 = .m ∨ p.1 ∈ I) →
      (pre.map (·.1)).Pairwise (fun a b => pos a < pos b) → (kj.isW = true → ∀ q ∈ I, ∀ p ∈ pre, p.1 ≠ q → (pos p.1 < pos q ∧ q ∈ pre.map (·.1)) ∨ apartDst ops p.1 q) →
      drun P z N ops (pre ++ (j, kj, I) :: post) T H n Q → ∃ I', dstep P z N ops j kj I' T H n (fun T H n => drun P z N ops (pre ++ post) T H n Q) Q
  | 0, pre, I, post, T, H, n, hm, _, _, _, _, _, h => by
    have : pre = [] := List.length_eq_zero_iff.1 hm
    subst this
    exact ⟨I, h⟩
  | m + 1, pre, I, post, T, H, n, hm, hinc, hpair, hin, hsort, hCI, h => by
    rcases List.eq_nil_or_concat pre with rfl | ⟨L, ⟨i, ki, Ii⟩, rfl⟩
    · simp at hm
    · simp only [List.concat_eq_append] at *
      rw [List.append_assoc] at h
      simp only [List.cons_append, List.nil_append] at h
      have hLm : L.length = m := by simpa using hm
      rw [List.map_append, List.pairwise_append] at hsort
      obtain ⟨hsortL, _, hlt⟩ := hsort
      have hlt' : ∀ p ∈ L, pos p.1 < pos i := fun p hp => hlt p.1 (List.mem_map.2 ⟨p, hp, rfl⟩) i (by simp)
      have hlast : kj.isW = true → ∀ q ∈ I, q ≠ i → apartDst ops i q := fun hw q hq hne => by
        rcases hCI hw q hq (i, ki, Ii) (by simp) (fun e => hne e.symm) with ⟨h1, h2⟩ | h1
        · exfalso
          rw [List.map_append, List.mem_append] at h2
          rcases h2 with h2 | h2
          · obtain ⟨p, hp, e⟩ := List.mem_map.1 h2
            have := hlt' p hp
            simp only at h1 e
            subst e
            omega
          · simp at h2; exact hne h2
        · exact h1
      obtain ⟨oi, oj, hoi, hoj, hap, hcase⟩ := hpair (i, ki, Ii) (by simp)
      have hb : ∀ T H n, drun P z N ops ((i, ki, Ii) :: (j, kj, I) :: post) T H n Q → drun P z N ops ((j, kj, if kj.isW then I.filter (· != i) else I) :: (i, ki, Ii) :: post) T H n Q := fun T H n h => by
        rcases hcase with ⟨h1, h2⟩ | ⟨h1, h2, h3, h4⟩ | ⟨h1, h2, ⟨x, hx⟩, h4, h5, h6⟩
        · simp only [h2, Bool.false_eq_true, if_false]
          exact swap_q hoi hoj h1 h2 hap h
        · simp only [h2, if_true]
          cases kj with
          | w inc =>
            refine swap_w hoi hoj h1 hap h3 h4 ?_ (fun q hq hne o ho d hd => hlast rfl q hq hne oi o hoi ho d hd) hpan h
            exact hin rfl (i, ki, Ii) (by simp)
          | m => simp [DK.isW] at h2
          | q => simp [DK.isW] at h2
          | c => simp [DK.isW] at h2
        · subst h2
          simp only [DK.isW, Bool.false_eq_true, if_false]
          cases ki with
          | w inc => exact swap_m hoi hoj hap hx h4 h5 (fun q hq => h6 q (hinc (i, .w inc, Ii) (by simp) q hq)) hpan h
          | m => simp [DK.isW] at h1
          | q => simp [DK.isW] at h1
          | c => simp [DK.isW] at h1
      have h2 := drun_mono_tail hb L T H n h
      obtain ⟨I', hI'⟩ := frontP pos hpan j kj m L (if kj.isW then I.filter (· != i) else I) ((i, ki, Ii) :: post) T H n hLm (fun p hp => hinc p (by simp [hp])) (fun p hp => hpair p (by simp [hp]))
        (fun hw p hp => (hin hw p (by simp [hp])).imp id fun h => by
          rw [if_pos hw]
          exact List.mem_filter.2 ⟨h, by have := hlt' p hp; simp; intro e; rw [e] at this; omega⟩) hsortL
        (fun hw q hq p hp hne => by
          rw [if_pos hw] at hq
          obtain ⟨hq1, hq2⟩ := List.mem_filter.1 hq
          rcases hCI hw q hq1 p (by simp [hp]) hne with ⟨h1, h2⟩ | h1
          · rw [List.map_append, List.mem_append] at h2
            rcases h2 with h2 | h2
            · exact .inl ⟨h1, h2⟩
            · simp at h2 hq2; exact absurd h2 hq2
          · exact .inr h1) h2
      exact ⟨I', by rw [List.append_assoc]; exact hI'⟩
structure CheckedP (ops : Array Oper) (N : Nat) (ks : List DK) (ord : List Nat) (pos : Nat → Nat) : Prop where
  mem : ∀ i, i ∈ ord ↔ i < ops.size
  srt : ord.Pairwise fun a b => pos a < pos b
  lin : ∀ i o, ops[i]? = some o → ∀ e ∈ edgesOf o, pos e < pos i
  len : ks.length = ops.size
  edges : ∀ i o, ops[i]? = some o → ∀ e ∈ edgesOf o, e < i
  pair : ∀ i j ki kj, pos i < pos j → ks[i]? = some ki → ks[j]? = some kj → isAnc (ancs [] ops.toList) i j = false → PairOK ops N i ki j kj ∧ (kj.isW = true → ki = .m ∨ i ∈ kj.inc)
  inc : ∀ j kj, ks[j]? = some kj → ∀ q ∈ kj.inc, (pos q < pos j ∧ q < ops.size) ∧ ∀ p, p < ops.size → pos p < pos j → p ≠ q → isAnc (ancs [] ops.toList) p q = false → apartDst ops p q
theorem dcheckP_spec {ks : List DK} {ord ps : List Nat} (h : dcheckP ops.toList N ks ord ps = true) : CheckedP ops N ks ord (fun i => ps.getD i 0) := by
  unfold dcheckP at h
  simp only [Bool.and_eq_true] at h
  obtain ⟨⟨⟨⟨⟨⟨⟨h1, h2⟩, h3⟩, m1⟩, m2⟩, m3⟩, m4⟩, _⟩ := h
  have hlen : ks.length = ops.size := by simpa using h1
  have hzip : ∀ i o k, ops[i]? = some o → ks[i]? = some k → (ops.toList.zip ks)[i]? = some (o, k) := fun i o k ho hk => by
    rw [List.getElem?_zip_eq_some]; exact ⟨by simpa using ho, hk⟩
  have hop : ∀ (i : Nat) (k : DK), ks[i]? = some k → ∃ o, ops[i]? = some o := fun i k hk => by
    have : i < ks.length := by
      rcases Nat.lt_or_ge i ks.length with h | h
      · exact h
      · rw [List.getElem?_eq_none h] at hk; simp at hk
    exact ⟨ops[i]'(by omega), by simp [Array.getElem?_eq_getElem (show i < ops.size by omega)]⟩
  have hdisj : ∀ {d : Option Tmp} {l : List Nat}, disj d.toList l = true → ∀ x, d = some x → x ∉ l := fun h x hx => disj_spec h (by simp [hx])
  refine ⟨fun i => ?_, pwB_spec m3, fun i o ho e he => ?_, hlen, fun i o ho e he => ?_, fun i j ki kj hij hki hkj hanc => ?_, fun j kj hkj q hq => ?_⟩
  · constructor
    · intro h; have := of_decide_eq_true (List.all_eq_true.1 m1 i h); simpa using this
    · intro h; have := List.all_eq_true.1 m2 i (List.mem_range.2 (by simpa using h)); simpa using this
  · have := List.all_eq_true.1 m4 (o, i) (zipIdx_get _ _ _ (by simpa using ho))
    exact of_decide_eq_true (List.all_eq_true.1 this e he)
  · have := List.all_eq_true.1 h2 (o, i) (zipIdx_get _ _ _ (by simpa using ho))
    exact of_decide_eq_true (List.all_eq_true.1 this e he)
  · obtain ⟨oi, hoi⟩ := hop i ki hki
    obtain ⟨oj, hoj⟩ := hop j kj hkj
    have hj := List.all_eq_true.1 h3 ((oj, kj), j) (zipIdx_get _ _ _ (hzip j oj kj hoj hkj))
    simp only [Bool.and_eq_true] at hj
    have hi := List.all_eq_true.1 hj.2 ((oi, ki), i) (zipIdx_get _ _ _ (hzip i oi ki hoi hki))
    have hij' : decide (ps.getD i 0 < ps.getD j 0) = true := decide_eq_true hij
    simp only [hij', Bool.not_true, hanc, Bool.false_or, Bool.and_eq_true, Bool.or_eq_true] at hi
    obtain ⟨hp, hself⟩ := hi
    unfold pairB at hp
    rw [Bool.and_eq_true] at hp
    obtain ⟨hap, hp⟩ := hp
    have hA := apartB_spec hap
    have hs : ki.isW = false → ∀ d, oi.dst = some d → d ∉ looks (ops := ops) oi := fun hk d hd => by
      rw [hk] at hself
      have := hself.resolve_right (by simp)
      rw [← looksL_eq]; exact hdisj this d hd
    have mres : ki.isW = false → kj.isW = false → PairOK ops N i ki j kj := fun a b => ⟨oi, oj, hoi, hoj, hA, .inl ⟨a, b⟩⟩
    cases kj with
    | w inc =>
      cases ki with
      | w inc' => simp at hp
      | m => exact ⟨⟨oi, oj, hoi, hoj, hA, .inr (.inl ⟨rfl, rfl, hs rfl, .inl rfl⟩)⟩, fun _ => .inl rfl⟩
      | q =>
        simp only [Bool.and_eq_true, Bool.or_eq_true, Bool.not_eq_true'] at hp
        refine ⟨⟨oi, oj, hoi, hoj, hA, .inr (.inl ⟨rfl, rfl, hs rfl, .inr ?_⟩)⟩, fun _ => .inr (by simpa [DK.inc] using hp.1)⟩
        rcases hp.2 with h | h
        · left; cases hd : oi.dst <;> simp_all
        · right; intro fo args ts e; rw [e] at h; simp [isCallV] at h
      | c =>
        simp only [Bool.and_eq_true, Bool.or_eq_true, Bool.not_eq_true'] at hp
        refine ⟨⟨oi, oj, hoi, hoj, hA, .inr (.inl ⟨rfl, rfl, hs rfl, .inr ?_⟩)⟩, fun _ => .inr (by simpa [DK.inc] using hp.1)⟩
        rcases hp.2 with h | h
        · left; cases hd : oi.dst <;> simp_all
        · right; intro fo args ts e; rw [e] at h; simp [isCallV] at h
    | m =>
      cases ki with
      | w inc' =>
        simp only [Bool.and_eq_true] at hp
        obtain ⟨⟨⟨p1, p2⟩, p3⟩, p4⟩ := hp
        refine ⟨⟨oi, oj, hoi, hoj, hA, .inr (.inr ⟨rfl, rfl, ?_, ?_, ?_, fun q hq o ho d hd => ?_⟩)⟩, fun h => by simp [DK.isW] at h⟩
        · unfold isMove at p1; split at p1
          · rename_i x e; exact ⟨x, e⟩
          · simp at p1
        · simpa using p2
        · cases hd : oj.dst with
          | none => trivial
          | some d => rw [hd] at p3; show d < N; exact of_decide_eq_true p3
        · have hn := hdisj p4 d hd
          have : ∀ x, x ∈ looksL ops.toList o ++ o.dst.toList → d ≠ x := fun x hx e => hn (List.mem_flatMap.2 ⟨q, hq, by simp only [Array.getElem?_toList, ho]; rw [e]; exact hx⟩)
          refine ⟨fun hm => ?_, fun e => ?_⟩
          · rw [← looksL_eq] at hm
            exact this d (List.mem_append_left _ hm) rfl
          · exact this d (List.mem_append_right _ (by simp [e])) rfl
      | m => exact ⟨mres rfl rfl, fun h => by simp [DK.isW] at h⟩
      | q => exact ⟨mres rfl rfl, fun h => by simp [DK.isW] at h⟩
      | c => exact ⟨mres rfl rfl, fun h => by simp [DK.isW] at h⟩
    | q =>
      cases ki with
      | w inc' => simp at hp
      | m => exact ⟨mres rfl rfl, fun h => by simp [DK.isW] at h⟩
      | q => exact ⟨mres rfl rfl, fun h => by simp [DK.isW] at h⟩
      | c => exact ⟨mres rfl rfl, fun h => by simp [DK.isW] at h⟩
    | c =>
      cases ki with
      | w inc' => simp at hp
      | m => exact ⟨mres rfl rfl, fun h => by simp [DK.isW] at h⟩
      | q => exact ⟨mres rfl rfl, fun h => by simp [DK.isW] at h⟩
      | c => exact ⟨mres rfl rfl, fun h => by simp [DK.isW] at h⟩
  · obtain ⟨oj, hoj⟩ := hop j kj hkj
    have hj := List.all_eq_true.1 h3 ((oj, kj), j) (zipIdx_get _ _ _ (hzip j oj kj hoj hkj))
    simp only [Bool.and_eq_true] at hj
    cases kj with
    | m => simp [DK.inc] at hq
    | q => simp [DK.inc] at hq
    | c => simp [DK.inc] at hq
    | w inc =>
      have hb := List.all_eq_true.1 hj.1 q hq
      unfold incP at hb
      split at hb
      · simp at hb
      · rename_i oq hoq
        simp only [Bool.and_eq_true] at hb
        obtain ⟨⟨b1, b2⟩, b3⟩ := hb
        refine ⟨⟨of_decide_eq_true b1, by
          rcases Nat.lt_or_ge q ops.size with h9 | h9
          · exact h9
          · rw [Array.getElem?_toList, Array.getElem?_eq_none h9] at hoq; cases hoq⟩, fun p hps hp hne hanc op oq' hop hoq' d hd => ?_⟩
        have hoq2 : oq' = oq := by
          rw [Array.getElem?_toList] at hoq
          rw [hoq'] at hoq; exact Option.some.inj hoq
        subst hoq2
        have := List.all_eq_true.1 b3 p (List.mem_range.2 (by simpa using hps))
        have hp' : decide (ps.getD p 0 < ps.getD j 0) = true := decide_eq_true hp
        simp only [hp', Bool.not_true, Bool.false_or, hanc, Bool.or_false, Bool.or_eq_true, beq_iff_eq, Array.getElem?_toList, hop] at this
        have h5 := this.resolve_left hne
        have hn := hdisj h5 d hd
        refine ⟨fun hm => hn (List.mem_append_left _ (by rw [looksL_eq]; exact hm)), fun e => hn (List.mem_append_right _ (by simp [e]))⟩
theorem anc_listedP {ks : List DK} {ord : List Nat} {pos : Nat → Nat} (hc : CheckedP ops N ks ord pos) {listed : Array Bool} (hcl : ∀ i o, ops[i]? = some o → listed.getD i true = true → ∀ e ∈ edgesOf o, listed.getD e true = true)
    (i : Nat) (o : Oper) (ho : ops[i]? = some o) (hi : ∀ e ∈ edgesOf o, listed.getD e true = true) (p : Nat) (hp : isAnc (ancs [] ops.toList) p i = true) : listed.getD p true = true := by
  induction i using Nat.strongRecOn generalizing o with
  | _ i ih =>
    obtain ⟨e, he, h⟩ := ancs_spec ops.toList [] i o (by simpa using ho) (by simpa using hc.edges i o ho) p (by simpa [isAnc] using hp)
    rcases h with rfl | h
    · exact hi _ he
    · have hlt := hc.edges i o ho e he
      have hsz : i < ops.size := by
        rcases Nat.lt_or_ge i ops.size with h | h
        · exact h
        · rw [Array.getElem?_eq_none h] at ho; simp at ho
      have hoe : ops[e]? = some (ops[e]'(by omega)) := Array.getElem?_eq_getElem (by omega)
      exact ih e hlt _ hoe (hcl e _ hoe (hi e he)) (by simpa [isAnc] using h)
def restP (ord : List Nat) (listed : Array Bool) : List Nat := ord.filter fun i => !listed.getD i true
theorem ready_eqP {ks : List DK} {ord : List Nat} {pos : Nat → Nat} (hc : CheckedP ops N ks ord pos) (listed : Array Bool) (hsz : listed.size = ops.size) (i : Nat) : i ∈ Region.ready .any ops listed ↔ i < ops.size ∧ listed.getD i true = false ∧ ∀ o, ops[i]? = some o → ∀ e ∈ edgesOf o, listed.getD e true = true := by
  unfold Region.ready
  rw [List.mem_filter, List.mem_range]
  refine and_congr_right fun hi => ?_
  have hoi : ops[i]? = some ops[i] := Array.getElem?_eq_getElem hi
  have hdef : ∀ e ∈ edgesOf ops[i], listed.getD e false = listed.getD e true := fun e he => by
    have := hc.edges i _ hoi e he
    simp [show e < listed.size by omega]
  rw [hoi]
  simp only [Option.map_some, Option.getD_some, Bool.and_eq_true, Bool.not_eq_true', Option.some.injEq]
  refine and_congr_right fun _ => ?_
  constructor
  · rintro h o rfl e he
    unfold edgesOf at he
    obtain ⟨ed, hed, rfl⟩ := List.mem_map.1 he
    obtain ⟨hm, hbind⟩ := List.mem_filter.1 hed
    have := Array.all_eq_true_iff_forall_mem.1 h ed (by simpa using hm)
    rw [← hdef ed.on (List.mem_map.2 ⟨ed, List.mem_filter.2 ⟨hm, hbind⟩, rfl⟩)]
    simpa [hbind] using this
  · intro h
    rw [Array.all_eq_true_iff_forall_mem]
    intro ed hm
    cases hb : Region.binds .any ed with
    | false => simp
    | true =>
      have hin : ed.on ∈ edgesOf ops[i] := List.mem_map.2 ⟨ed, List.mem_filter.2 ⟨by simpa using hm, hb⟩, rfl⟩
      rw [hdef _ hin]
      simpa using h _ rfl ed.on hin
theorem drun_anyP {ks : List DK} {ord : List Nat} {pos : Nat → Nat} (hc : CheckedP ops N ks ord pos) {Q : AEx → (Nat → AV) → Heap → Nat → Prop} (hpan : ∀ p T T' H n, Q (.pan p) T H n → Q (.pan p) T' H n) {c0 : Ctx} {H0 : Heap} {w0 : World} :
    ∀ (fuel : Nat) (listed : Array Bool), listed.size = ops.size → (restP ord listed).length = fuel → (∀ i o, ops[i]? = some o → listed.getD i true = true → ∀ e ∈ edgesOf o, listed.getD e true = true) →
      ∀ (c : Ctx) (w : World) (a : Act) (T : Nat → AV) (H : Heap) (n : Nat), Step c0 H0 w0 c H n w → RelTmps c T a.tmps → a.tmps.size = N → a.defers = [] →
        drun P z N ops ((restP ord listed).map (item ks)) T H n Q → wpAny P .any ops (APost N c0 H0 w0 Q) fuel listed a w
  | 0, listed, hsz, hlen, hcl, c, w, a, T, H, n, hst, hr, hN, hd, h => by
    have hnil : restP ord listed = [] := List.length_eq_zero_iff.1 hlen
    rw [hnil] at h
    refine ⟨?_, .normal, c, T, H, n, h, trivial, hst, hr, hN, hd⟩
    rw [List.eq_nil_iff_forall_not_mem]
    intro i hi
    obtain ⟨h1, h2, _⟩ := (ready_eqP hc listed hsz i).1 hi
    have : i ∈ restP ord listed := List.mem_filter.2 ⟨(hc.mem i).2 h1, by simp only [h2]; rfl⟩
    rw [hnil] at this; simp at this
  | fuel + 1, listed, hsz, hlen, hcl, c, w, a, T, H, n, hst, hr, hN, hd, h => by
    have hmem : ∀ i, i ∈ restP ord listed ↔ i < ops.size ∧ listed.getD i true = false := fun i => by
      unfold restP; rw [List.mem_filter, hc.mem]; simp
    have hsorted : (restP ord listed).Pairwise (fun a b => pos a < pos b) := List.Pairwise.filter _ hc.srt
    refine ⟨fun hnone => ?_, fun i hi => ?_⟩
    · -- the first that is left is ready
      exfalso
      cases hrest : restP ord listed with
      | nil => rw [hrest] at hlen; simp at hlen
      | cons i l =>
        obtain ⟨h1, h2⟩ := (hmem i).1 (by rw [hrest]; simp)
        have hready : i ∈ Region.ready .any ops listed := (ready_eqP hc listed hsz i).2 ⟨h1, h2, fun o ho e he => by
          have hlt := hc.lin i o ho e he
          have hlt2 := hc.edges i o ho e he
          cases hle : listed.getD e true with
          | true => rfl
          | false =>
            have : e ∈ restP ord listed := (hmem e).2 ⟨by omega, hle⟩
            rw [hrest] at this hsorted
            rcases List.mem_cons.1 this with e1 | e1
            · subst e1; omega
            · have := (List.pairwise_cons.1 hsorted).1 e e1; omega⟩
        rw [hnone] at hready; simp at hready
    · obtain ⟨h1, h2, h3⟩ := (ready_eqP hc listed hsz i).1 hi
      have hin : i ∈ restP ord listed := (hmem i).2 ⟨h1, h2⟩
      obtain ⟨pre, post, hsplit⟩ := List.append_of_mem hin
      have hoi : ops[i]? = some ops[i] := Array.getElem?_eq_getElem h1
      have hks : ∀ p, p < ops.size → ks[p]? = some (ks.getD p .m) := fun p hp => by
        have : p < ks.length := by rw [hc.len]; exact hp
        simp [List.getD, List.getElem?_eq_getElem this]
      rw [hsplit] at hsorted
      have hsort2 := List.pairwise_append.1 hsorted
      have hpre : ∀ p ∈ pre, pos p < pos i ∧ p < ops.size ∧ listed.getD p true = false := fun p hp => by
        have hpr : p ∈ restP ord listed := by rw [hsplit]; simp [hp]
        exact ⟨hsort2.2.2 p hp i (by simp), (hmem p).1 hpr⟩
      have hnanc : ∀ p ∈ pre, isAnc (ancs [] ops.toList) p i = false := fun p hp => by
        cases hh : isAnc (ancs [] ops.toList) p i with
        | false => rfl
        | true =>
          have := anc_listedP hc hcl i _ hoi (h3 _ hoi) p hh
          rw [(hpre p hp).2.2] at this; simp at this
      have hpairs : ∀ p ∈ pre, PairOK ops N p (ks.getD p .m) i (ks.getD i .m) ∧ ((ks.getD i .m).isW = true → ks.getD p .m = .m ∨ p ∈ (ks.getD i .m).inc) := fun p hp =>
        hc.pair p i _ _ (hpre p hp).1 (hks p (hpre p hp).2.1) (hks i h1) (hnanc p hp)
      rw [hsplit, List.map_append, List.map_cons] at h
      obtain ⟨I', hstep⟩ := frontP pos hpan i (ks.getD i .m) (pre.map (item ks)).length (pre.map (item ks)) (ks.getD i .m).inc (post.map (item ks)) T H n rfl
        (fun p hp => by obtain ⟨x, hx, rfl⟩ := List.mem_map.1 hp; exact fun y hy => hy)
        (fun p hp => by obtain ⟨x, hx, rfl⟩ := List.mem_map.1 hp; exact (hpairs x hx).1)
        (fun hw p hp => by obtain ⟨x, hx, rfl⟩ := List.mem_map.1 hp; exact (hpairs x hx).2 hw)
        (by
          have e : (pre.map (item ks)).map (·.1) = pre := by simp [item, Function.comp_def]
          rw [e]; exact hsort2.1)
        (fun hw q hq p hp hne => by
          obtain ⟨x, hx, rfl⟩ := List.mem_map.1 hp
          simp only [item] at hne ⊢
          obtain ⟨hqi, hqa⟩ := hc.inc i _ (hks i h1) q hq
          cases hh : isAnc (ancs [] ops.toList) x q with
          | false => exact .inr (hqa x (hpre x hx).2.1 (hpre x hx).1 hne hh)
          | true =>
            left
            have hqs : q < ops.size := hqi.2
            have hqi := hqi.1
            have hoq : ops[q]? = some ops[q] := Array.getElem?_eq_getElem hqs
            have hql : listed.getD q true = false := by
              cases hl : listed.getD q true with
              | false => rfl
              | true =>
                have := anc_listedP hc hcl q _ hoq (hcl q _ hoq hl) x hh
                rw [(hpre x hx).2.2] at this; simp at this
            have hqr : q ∈ restP ord listed := (hmem q).2 ⟨hqs, hql⟩
            have hqpre : q ∈ pre := by
              rw [hsplit] at hqr
              rcases List.mem_append.1 hqr with h | h
              · exact h
              · rcases List.mem_cons.1 h with h | h
                · subst h; omega
                · have := (List.pairwise_cons.1 hsort2.2.1).1 q h; omega
            refine ⟨?_, List.mem_map.2 ⟨item ks q, List.mem_map.2 ⟨q, hqpre, rfl⟩, rfl⟩⟩
            have : ∀ (q : Nat) (o : Oper), ops[q]? = some o → ∀ x, isAnc (ancs [] ops.toList) x q = true → pos x < pos q := by
              intro q
              induction q using Nat.strongRecOn with
              | _ q ih =>
                intro o ho x hx
                obtain ⟨e, he, h⟩ := ancs_spec ops.toList [] q o (by simpa using ho) (by simpa using hc.edges q o ho) x (by simpa [isAnc] using hx)
                have hlt := hc.edges q o ho e he
                have hlt3 := hc.lin q o ho e he
                rcases h with rfl | h
                · exact hlt3
                · have hqs' : q < ops.size := by
                    rcases Nat.lt_or_ge q ops.size with h | h
                    · exact h
                    · rw [Array.getElem?_eq_none h] at ho; simp at ho
                  have := ih e hlt _ (Array.getElem?_eq_getElem (show e < ops.size by omega)) x (by simpa [isAnc] using h)
                  omega
            exact this q _ hoq x hh) h
      refine dstep_sound hstep hst hr hN hd fun T' c' H' n' a' w' hK hst' hr' hN' hd' => ?_
      have hget : ∀ k, (listed.setIfInBounds i true).getD k true = if k = i then true else listed.getD k true := fun k => by
        simp only [Array.getD_eq_getD_getElem?, Array.getElem?_setIfInBounds]
        by_cases e : k = i
        · subst e; simp [hsz, h1]
        · simp [Ne.symm e, e]
      have hrest' : restP ord (listed.setIfInBounds i true) = pre ++ post := by
        have e1 : restP ord (listed.setIfInBounds i true) = (restP ord listed).filter (· != i) := by
          unfold restP
          rw [List.filter_filter]
          apply List.filter_congr
          intro k _
          rw [hget]
          by_cases e : k = i <;> simp [e]
        rw [e1, hsplit, List.filter_append, List.filter_cons]
        have ep : pre.filter (· != i) = pre := List.filter_eq_self.2 fun p hp => by have := (hpre p hp).1; simp; intro e; rw [e] at this; omega
        have eq : post.filter (· != i) = post := List.filter_eq_self.2 fun p hp => by have := (List.pairwise_cons.1 hsort2.2.1).1 p hp; simp; intro e; rw [e] at this; omega
        simp [ep, eq]
      have hlen' : (restP ord (listed.setIfInBounds i true)).length = fuel := by
        rw [hrest']
        rw [hsplit] at hlen
        simp at hlen ⊢; omega
      refine drun_anyP hc hpan fuel _ (by simp [hsz]) hlen' (fun k o ho hk e he => ?_) c' w' a' T' H' n' hst' hr' hN' hd' ?_
      · rw [hget] at hk ⊢
        split
        · rfl
        · by_cases ek : k = i
          · subst ek
            exact h3 o ho e he
          · rw [if_neg ek] at hk
            exact hcl k o ho hk e he
      · rw [hrest', List.map_append]
        exact hK
theorem awp_drawP {id : Nat} {l : List Oper} {y : Code} {T : Nat → AV} {H : Heap} {n : Nat} {Q : AEx → (Nat → AV) → Heap → Nat → Prop} (hm : P.follows .mixedOrders = true) (z : TypeId → AV) (live : List Nat) (ks : List DK) (ord ps : List Nat)
    (hc : dcheckP l N ks ord ps = true) (hpan : ∀ p T T' H n, Q (.pan p) T H n → Q (.pan p) T' H n)
    (h : ∀ K : (Nat → AV) → Heap → Nat → Prop, (∀ T H n, awp P N y T H n Q → K T H n) → drun P z N l.toArray (ord.map (item ks)) T H n (AThen (fun T' H' n' => K (tsel live T') H' n') Q)) :
    awp P N (.seq (.region id l.toArray true) y) T H n Q := by
  refine awp_seq (Q := Q) ?_
  intro c w a hs hr hN hd
  refine wp_region_any hm ?_
  have hst : Step c H w c H n { w with drawn := w.drawn + 1 } := Step.drew hs
  have hcc := dcheckP_spec (ops := l.toArray) (N := N) (ks := ks) (ord := ord) (ps := ps) (by simpa using hc)
  have hrest : restP ord (Array.replicate l.toArray.size false) = ord := by
    unfold restP
    rw [List.filter_eq_self.2]
    intro i hi
    have hi : i < l.length := by simpa using (hcc.mem i).1 hi
    simp [hi]
  have hol : ord.length = l.toArray.size := by unfold dcheckP at hc; simp only [Bool.and_eq_true, beq_iff_eq] at hc; simpa using hc.2
  rw [← hol]
  refine drun_anyP (P := P) (z := z) (Q := AThen (fun T H n => awp P N y T H n Q) Q) (ops := l.toArray) hcc (fun p T T' H n hq => hpan p T T' H n hq) ord.length (Array.replicate ord.length false) (by simpa using hol) (by rw [hol, hrest]; exact hol) ?_ c _ a T H n hst hr hN hd ?_
  · intro i o ho hi
    have : i < l.length := by
      rcases Nat.lt_or_ge i l.length with h | h
      · exact h
      · rw [List.getElem?_toArray, List.getElem?_eq_none h] at ho; simp at ho
    simp [this, hol] at hi
  · rw [hol, hrest]
    have := h (fun T' H' n' => awp P N y T' H' n' Q) (fun _ _ _ h => h)
    have mono : ∀ (its : List (Nat × DK × List Nat)) (T : Nat → AV) (H : Heap) (n : Nat), drun P z N l.toArray its T H n (AThen (fun T' H' n' => awp P N y (tsel live T') H' n' Q) Q) →
        drun P z N l.toArray its T H n (AThen (fun T' H' n' => awp P N y T' H' n' Q) Q) := by
      intro its
      induction its with
      | nil => intro T H n hh; exact awp_sel live hh
      | cons it its ih => intro T H n hh; obtain ⟨i, k, I⟩ := it; exact dstep_mono2 (fun T H n h => ih T H n h) (fun p T H n h => h) hh
    exact mono _ _ _ _ this
theorem awp_drawP0 {id : Nat} {l : List Oper} {T : Nat → AV} {H : Heap} {n : Nat} {Q : AEx → (Nat → AV) → Heap → Nat → Prop} (hm : P.follows .mixedOrders = true) (z : TypeId → AV) (ks : List DK) (ord ps : List Nat)
    (hc : dcheckP l N ks ord ps = true) (hpan : ∀ p T T' H n, Q (.pan p) T H n → Q (.pan p) T' H n)
    (h : drun P z N l.toArray (ord.map (item ks)) T H n Q) :
    awp P N (.region id l.toArray true) T H n Q := by
  intro c w a hs hr hN hd
  refine wp_region_any hm ?_
  have hst : Step c H w c H n { w with drawn := w.drawn + 1 } := Step.drew hs
  have hcc := dcheckP_spec (ops := l.toArray) (N := N) (ks := ks) (ord := ord) (ps := ps) (by simpa using hc)
  have hrest : restP ord (Array.replicate l.toArray.size false) = ord := by
    unfold restP
    rw [List.filter_eq_self.2]
    intro i hi
    have hi : i < l.length := by simpa using (hcc.mem i).1 hi
    simp [hi]
  have hol : ord.length = l.toArray.size := by unfold dcheckP at hc; simp only [Bool.and_eq_true, beq_iff_eq] at hc; simpa using hc.2
  rw [← hol]
  refine drun_anyP (P := P) (z := z) (Q := Q) (ops := l.toArray) hcc hpan ord.length (Array.replicate ord.length false) (by simpa using hol) (by rw [hol, hrest]; exact hol) ?_ c _ a T H n hst hr hN hd ?_
  · intro i o ho hi
    have : i < l.length := by
      rcases Nat.lt_or_ge i l.length with h | h
      · exact h
      · rw [List.getElem?_toArray, List.getElem?_eq_none h] at ho; simp at ho
    simp [this, hol] at hi
  · rw [hol, hrest]; exact h
end
def dkAt : List DK → Nat → Option DK
  | [], _ => none
  | k :: _, 0 => some k
  | _ :: l, i + 1 => dkAt l i
theorem dkAt_eq (l : List DK) (k : Nat) : dkAt l k = l[k]? := by
  induction l generalizing k with
  | nil => rfl
  | cons a l ih => cases k with
    | zero => rfl
    | succ k => simp [dkAt, ih]
def opk1 : Option Oper → Option DK → List (Oper × DK) → List (Oper × DK)
  | some o, some k, r => (o, k) :: r
  | _, _, r => r
def opkL (l : List Oper) (ks : List DK) : List Nat → List (Oper × DK)
  | [] => []
  | i :: is => opk1 (opAt l i) (dkAt ks i) (opkL l ks is)
theorem dr_drunP {P : Program} {z : TypeId → AV} {N : Nat} {l : List Oper} {ks : List DK} {Q : AEx → (Nat → AV) → Heap → Nat → Prop} (hl : ks.length = l.length) :
    ∀ (ord : List Nat) (T : Nat → AV) (H : Heap) (n : Nat), (∀ i ∈ ord, i < l.length) → dr P z N l (opkL l ks ord) T H n Q → drun P z N l.toArray (ord.map (item ks)) T H n Q
  | [], T, H, n, hk, h => h
  | k :: ord, T, H, n, hk, h => by
    have h1 : k < l.length := hk k (by simp)
    have h2 : k < ks.length := by omega
    have hlk : l[k]? = some l[k] := List.getElem?_eq_getElem h1
    rw [opkL, opAt_eq, dkAt_eq, hlk, List.getElem?_eq_getElem h2, opk1] at h
    have ih := fun (T : Nat → AV) (H : Heap) (n : Nat) => dr_drunP (P := P) (z := z) (N := N) (ks := ks) (Q := Q) hl ord T H n (fun i hi => hk i (by simp [hi]))
    rw [List.map_cons]
    have ei : item ks k = (k, ks[k], ks[k].inc) := by simp [item, List.getD, List.getElem?_eq_getElem h2]
    rw [ei]
    show dstep P z N l.toArray k ks[k] ks[k].inc T H n _ Q
    unfold dstep
    simp only [List.getElem?_toArray, hlk]
    generalize l[k] = o at h ⊢
    generalize ks[k] = kd at h ⊢
    obtain ⟨dst, op, ty, pos, after, guard⟩ := o
    cases guard with
    | none =>
      unfold dr at h
      refine ⟨h.1, ?_⟩
      have h := h.2
      cases kd with
      | m =>
        simp only [gvO, contB, putG] at h ⊢
        split
        · exact ih _ _ _ h
        · rename_i hne; split at h
          · exact (hne _ rfl).elim
          · exact h
      | q =>
        simp only [gvO, contB, putG] at h ⊢
        cases hq : opQ P z H true T op with
        | none => rw [hq] at h; exact h.elim
        | some p => rw [hq] at h; exact ⟨fun _ => h.1, ih _ _ _ h.2⟩
      | c =>
        simp only [gvO, contB, putG] at h ⊢
        split
        · rename_i fo args ts; obtain ⟨r, h1, h2⟩ := h; exact ⟨r, fun _ => h1 rfl, ih _ _ _ h2⟩
        · rename_i hne; split at h
          · exact (hne _ _ _ rfl).elim
          · exact h
      | w inc =>
        simp only [DK.inc] at h ⊢
        refine ⟨trivial, ?_⟩
        split
        · rename_i fo args ts
          exact callK_mono (fun r H n hr => ⟨sames_all hr.1, ih _ _ _ hr.2⟩) h
        · rename_i hne
          split at h
          · rename_i fo args ts; exact (hne _ _ _ rfl).elim
          · cases hw : opW P z H n T op with
            | none => rw [hw] at h; exact h.elim
            | some p => rw [hw] at h; exact ⟨h.1, sames_all h.2.1, ih _ _ _ h.2.2⟩
    | some jb =>
      obtain ⟨j, b⟩ := jb
      unfold dr at h
      refine ⟨h.1, ?_⟩
      have h := h.2
      have hgv : gvO l.toArray T ⟨dst, op, ty, pos, after, some (j, b)⟩ = (gtmp l.toArray j).bind fun t => gval (T t) b := rfl
      cases hg : (gtmp l.toArray j).bind fun t => gval (T t) b with
      | none => rw [hg] at h; exact h.elim
      | some g =>
        rw [hg] at h
        simp only [contB] at h
        cases kd with
        | m =>
          simp only [hgv, hg, contB, putG] at h ⊢
          split
          · exact ih _ _ _ h
          · rename_i hne; split at h
            · exact (hne _ rfl).elim
            · exact h
        | q =>
          simp only [hgv, hg, contB, putG] at h ⊢
          cases hq : opQ P z H g T op with
          | none => rw [hq] at h; exact ⟨h.1, ih _ _ _ h.2⟩
          | some p => rw [hq] at h; exact ⟨h.1, ih _ _ _ h.2⟩
        | c =>
          simp only [hgv, hg, contB, putG] at h ⊢
          split
          · rename_i fo args ts; obtain ⟨r, h1, h2⟩ := h; exact ⟨r, h1, ih _ _ _ h2⟩
          · rename_i hne; split at h
            · rename_i fo args ts; exact (hne _ _ _ rfl).elim
            · exact h
        | w inc => exact h.elim
theorem awp_drp {P : Program} {N id : Nat} {l : List Oper} {y : Code} {T : Nat → AV} {H : Heap} {n : Nat} {Q : AEx → (Nat → AV) → Heap → Nat → Prop} (hm : P.follows .mixedOrders = true) (z : TypeId → AV) (live : List Nat) (ks : List DK) (ord ps : List Nat)
    (hc : dcheckP l N ks ord ps = true) (hpan : ∀ p T T' H n, Q (.pan p) T H n → Q (.pan p) T' H n)
    (h : ∀ K : (Nat → AV) → Heap → Nat → Prop, (∀ T H n, awp P N y T H n Q → K T H n) → dr P z N l (opkL l ks ord) T H n (AThen (fun T' H' n' => K (tsel live T') H' n') Q)) :
    awp P N (.seq (.region id l.toArray true) y) T H n Q :=
  awp_drawP hm z live ks ord ps hc hpan fun K hK => by
    have hcc := dcheckP_spec (ops := l.toArray) (N := N) (ks := ks) (ord := ord) (ps := ps) (by simpa using hc)
    exact dr_drunP (by simpa using hcc.len) ord T H n (fun i hi => by simpa using (hcc.mem i).1 hi) (by simpa using h K hK)
theorem awp_drp1 {P : Program} {N id : Nat} {l : List Oper} {T : Nat → AV} {H : Heap} {n : Nat} {Q : AEx → (Nat → AV) → Heap → Nat → Prop} (hm : P.follows .mixedOrders = true) (z : TypeId → AV) (live : List Nat) (ks : List DK) (ord ps : List Nat)
    (hc : dcheckP l N ks ord ps = true) (hpan : ∀ p T T' H n, Q (.pan p) T H n → Q (.pan p) T' H n)
    (h : ∀ K : (Nat → AV) → Heap → Nat → Prop, (∀ T H n, Q .normal T H n → K T H n) → dr P z N l (opkL l ks ord) T H n (AThen (fun T' H' n' => K (tsel live T') H' n') Q)) :
    awp P N (.region id l.toArray true) T H n Q :=
  awp_postsel live <| awp_drawP0 hm z ks ord ps hc (fun p T T' H n hq => hpan p T T' H n hq) (by
    have hcc := dcheckP_spec (ops := l.toArray) (N := N) (ks := ks) (ord := ord) (ps := ps) (by simpa using hc)
    exact dr_drunP (by simpa using hcc.len) ord T H n (fun i hi => by simpa using (hcc.mem i).1 hi) (by simpa using h (fun T' H' n' => Q .normal T' H' n') (fun _ _ _ h => h)))
attribute [go_sem] opkL.eq_1 opkL.eq_2 opk1.eq_1 dkAt.eq_1 dkAt.eq_2 dkAt.eq_3
end Go.Sx
namespace Go.Sx
open Go
theorem ACalls.post_adopt {P : Program} {f : FuncId} {args : List AV} {H : Heap} {n : Nat} {K K' : ARes → Heap → Nat → Prop} (h : ACalls P f args H n K)
    (hK : ∀ res H1 n1, K res H1 n1 → K' res H1 n1 ∨ ∃ k ver e els els' esz, H1 k = some (.arr ver e els) ∧ AdpL n1 els els' ∧ K' res ((H1.put n1 (some (.arr 0 esz []))).put k (some (.arr ver e els'))) (n1 + 1)) : ACalls P f args H n K' := by
  intro c w vs hs hr
  refine (h c w vs hs hr).mono ?_
  rintro ex w' ⟨res, c', H', n', hk, hst, hm⟩
  rcases hK _ _ _ hk with h0 | ⟨k, ver, e, els, els', esz, h1, ha, h2⟩
  · exact ⟨res, c', H', n', h0, hst, hm⟩
  have hn := Step.newNil hst.sim esz
  have hkn : k < n' := by
    rcases Nat.lt_or_ge k n' with h9 | h9
    · exact h9
    · have := (hst.sim.fresh k h9).1; rw [this] at h1; cases h1
  have hs2 := Step.retell (els' := els') hn.sim (show (H'.put n' (some (.arr 0 esz []))) k = some (.arr ver e els) by rw [Heap.put_ne _ _ (by omega)]; exact h1) (fun ds hd => ha.relF Ctx.addLoc_same hd) ha.len.symm ha.szAll
  refine ⟨res, _, _, _, h2, (hst.trans hn).trans hs2, ?_⟩
  have hle := hn.le.trans hs2.le
  cases ex <;> cases res <;> first | exact Rel.mono hle _ _ _ hm | (obtain ⟨v, h3, h4⟩ := hm; exact ⟨v, h3, Rel.mono hle _ _ _ h4⟩) | exact hm
end Go.Sx