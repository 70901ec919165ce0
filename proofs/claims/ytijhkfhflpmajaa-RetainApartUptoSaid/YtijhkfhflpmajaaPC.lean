/- Own layer 'Sx', part G2: maps of plain keys, written; literals of slices in new owned memory. Of every program; no condition. -/
import Derived.Test.YtijhkfhflpmajaaPB
import Derived.Orders
set_option linter.unusedSimpArgs false
set_option linter.unusedVariables false
namespace Go.Sx
open Go
def wMakeMap (P : Program) (H : Heap) (n : Nat) (t : TypeId) : Option AV → Option (Prop × AV × Heap × Nat)
  | none => some (True, .omap n, H.put n (some (.map [])), n + 1)
  | some (.int _ _) => some ((tMap P t).isSome = true, .omap n, H.put n (some (.map [])), n + 1)
  | _ => none
theorem Step.newMap {c : Ctx} {H : Heap} {n : Nat} {w : World} (hs : Sim c H n w) :
    Step c H w (c.addLoc n 0 (.blk w.heap.size 0 0)) (H.put n (some (.map []))) (n + 1) (w.alloc (.map #[] 0)) := by
  have hf := hs.fresh n (Nat.le_refl _)
  refine Step.renew (n' := n + 1) hs n (.map []) (.blk w.heap.size 0 0) (by omega) (by omega) (hf.2 0) (fun v _ => hf.2 v) (.alloc _ _ _) ?_ ?_ ?_ ?_
  · intro k' o' b _ hk' hb
    have := (hs.own k' o' hk').lt hb
    show (w.heap.push _)[b]? = _
    rw [Array.getElem?_push, if_neg (by omega)]
  · intro b a hb
    have : b < w.heap.size := by
      obtain ⟨t, fr, hx⟩ := hs.ro b a hb
      rcases Nat.lt_or_ge b w.heap.size with h | h
      · exact h
      · rw [Array.getElem?_eq_none h] at hx; simp at hx
    show (w.heap.push _)[b]? = _
    rw [Array.getElem?_push, if_neg (by omega)]
  · simp only [OwnOK]
    exact ⟨_, _, _, #[], 0, Ctx.addLoc_same, heap_push_new, by simp [RelM]⟩
  · intro b cap' e hl
    cases hl
    exact ⟨hs.ro_size (Nat.le_refl _), .inl (Nat.le_refl _)⟩
theorem ot_makeMap {P : Program} {H : Heap} {n : Nat} {dst : Option Tmp} {t : TypeId} {r0 : Option Operand} {ty : TypeId} {pos : String} {after : Array Edge} {guard : Option (Nat × Bool)} {ε : Operand → AV}
    {C : Prop} {r : AV} {H' : Heap} {n' : Nat} {K : ARes → Heap → Nat → Prop}
    (h : wMakeMap P H n t (r0.map ε) = some (C, r, H', n')) (hC : C) (hK : K (.val r) H' n') : OpT P ⟨dst, .makeMap t r0, ty, pos, after, guard⟩ ε H n K :=
  OpT.of_run fun c w ρv hs hr => by
    cases r0 with
    | none =>
      simp only [Option.map_none, wMakeMap, Option.some.injEq, Prod.mk.injEq] at h
      obtain ⟨rfl, rfl, rfl, rfl⟩ := h
      refine ⟨_, .map (some w.heap.size), _, _, _, w.alloc (.map #[] 0), .inl (by simp [execOp, Instr.makeMap]), Step.newMap hs, ?_, hK⟩
      simp only [Rel]; exact ⟨_, _, _, Ctx.addLoc_same, rfl⟩
    | some x =>
      have hx := hr x (by simp [Op.operands])
      simp only [Option.map_some] at h
      generalize ε x = xa at h hx
      cases xa <;> simp only [wMakeMap] at h <;> try (simp at h; done)
      simp only [Option.some.injEq, Prod.mk.injEq] at h
      obtain ⟨rfl, rfl, rfl, rfl⟩ := h
      obtain ⟨de, hde⟩ := Option.isSome_iff_exists.1 hC
      obtain ⟨d, et⟩ := de
      obtain ⟨kt, hu, hd⟩ := tMap_spec hde
      simp only [Rel, List.cons.injEq, and_true] at hx
      refine ⟨_, .map (some w.heap.size), _, _, _, w.alloc (.map #[] 0), .inl (by simp [execOp, Instr.makeMap, run_underlying' hu, hx, asInt, asIntOf]), Step.newMap hs, ?_, hK⟩
      simp only [Rel]; exact ⟨_, _, _, Ctx.addLoc_same, rfl⟩
def setK : List (AV × AV) → AV → AV → List (AV × AV)
  | [], k, v => [(k, v)]
  | (a, x) :: es, k, v => bif keySame k a then (a, v) :: es else (a, x) :: setK es k v
theorem setK_rel {c : Ctx} {d : TypeDesc} {k v : AV} {kv vv : Value} (hk : k.isKey d = true) (h : Rel c k false [kv]) (hv : Rel c v false [vv]) (clock : Nat) : ∀ (es : List (AV × AV)) (l : List MapEntry) (i : Nat), RelM c es l → (∀ e ∈ es, e.1.isKey d = true) →
    (Instr.findNow d kv l i = some none ∧ RelM c (setK es k v) (l ++ [⟨kv, vv, clock⟩])) ∨
      ∃ j e, Instr.findNow d kv l i = some (some (i + j, e.val)) ∧ l[j]? = some e ∧ e.key = kv ∧ RelM c (setK es k v) (l.modify j fun e => { e with key := kv, val := vv })
  | [], l, i, hr, _ => by
    simp only [RelM] at hr; subst hr
    exact .inl ⟨rfl, by simp only [setK, RelM]; exact ⟨_, [], rfl, h, hv, rfl⟩⟩
  | (a, x) :: es, l, i, hr, hks => by
    simp only [RelM] at hr
    obtain ⟨e, r, rfl, h1, h2, h3⟩ := hr
    have hka := hks (a, x) (by simp)
    have hs := keySame_rel hk hka h h1
    cases hb : keySame k a with
    | true =>
      obtain ⟨r', hr', hiff⟩ := MapKept.sameNow_of_keys (isKey_rel hk h) (isKey_rel hka h1)
      rw [hs, hb] at hr'
      cases hr'
      have ek := (hiff.1 rfl).symm
      refine .inr ⟨0, e, by simp [Instr.findNow, hs, hb], rfl, ek, ?_⟩
      simp only [setK, hb, cond_true, List.modify_zero_cons, RelM]
      exact ⟨_, _, rfl, by rw [← ek]; exact h1, hv, h3⟩
    | false =>
      rcases setK_rel hk h hv clock es r (i + 1) h3 (fun e he => hks e (by simp [he])) with ⟨h4, h5⟩ | ⟨j, e', h4, h5, h6, h7⟩
      · refine .inl ⟨by simp [Instr.findNow, hs, hb, h4], ?_⟩
        simp only [setK, hb, cond_false, List.cons_append, RelM]
        exact ⟨_, _, rfl, h1, h2, h5⟩
      · refine .inr ⟨j + 1, e', by simp [Instr.findNow, hs, hb, h4]; omega, by simpa using h5, h6, ?_⟩
        simp only [setK, hb, cond_false, List.modify_succ_cons, RelM]
        exact ⟨_, _, rfl, h1, h2, h7⟩
def wMapUpM (P : Program) (H : Heap) (n k : Nat) (key v : AV) (es : List (AV × AV)) : Option (TypeDesc × TypeId) → Option (Prop × AV × Heap × Nat)
  | some (d, _) => some (key.isKey d = true ∧ (∀ e ∈ es, e.1.isKey d = true), .junk, H.put k (some (.map (setK es key v))), n)
  | none => none
def wMapUpO (P : Program) (H : Heap) (n k : Nat) (t : TypeId) (key v : AV) : Option AObj → Option (Prop × AV × Heap × Nat)
  | some (.map es) => wMapUpM P H n k key v es (tMap P t)
  | _ => none
def wMapUp (P : Program) (H : Heap) (n : Nat) (t : TypeId) (key v : AV) : AV → Option (Prop × AV × Heap × Nat)
  | .omap k => wMapUpO P H n k t key v (H k)
  | _ => none
theorem Step.setMap {c : Ctx} {H : Heap} {n : Nat} {w : World} (hs : Sim c H n w) {k b cap e : Nat} {es es' : List (AV × AV)} (hk : H k = some (.map es)) (hl : c.ρ k 0 = some (.blk b cap e)) {l : Array MapEntry} {clock : Nat} {l' : Array MapEntry} {clock' : Nat}
    (hb : w.heap[b]? = some (.map l clock)) (hr : RelM c es' l'.toList) : Step c H w c (H.put k (some (.map es'))) n { w with heap := w.heap.setIfInBounds b (.map l' clock') } := by
  have hbo : blockOf c k (.map es) = some b := by simp [blockOf, AObj.ver, hl]
  obtain ⟨hself, hother⟩ := MapKept.heap_set (o' := .map l' clock') hb
  refine Step.write hs k _ (.map es') hk rfl ⟨rfl, rfl, rfl, by simp, fun b' _ hS => hother b' fun e => hS ⟨k, _, hk, by rw [e]; exact hbo⟩⟩
    (fun k' o' b' hne hk' hb' => hother b' fun e => hne (hs.inj k' k o' _ b hk' hk (by rw [← e]; exact hb') hbo))
    (fun b' a' hb' => hother b' fun e => by have := hs.sep k _ b hk hbo; rw [← e, hb'] at this; simp at this) ?_
  simp only [OwnOK]
  exact ⟨b, cap, e, l', clock', hl, hself, hr⟩
theorem ot_mapUp {P : Program} {H : Heap} {n : Nat} {dst : Option Tmp} {t : TypeId} {m key v : Operand} {ty : TypeId} {pos : String} {after : Array Edge} {guard : Option (Nat × Bool)} {ε : Operand → AV}
    {C : Prop} {r : AV} {H' : Heap} {n' : Nat} {K : ARes → Heap → Nat → Prop}
    (h : wMapUp P H n t (ε key) (ε v) (ε m) = some (C, r, H', n')) (hC : C) (hK : K (.val r) H' n') : OpT P ⟨dst, .mapUpdate t m key v, ty, pos, after, guard⟩ ε H n K :=
  OpT.of_run fun c w ρv hs hr => by
    have hm := hr m (by simp [Op.operands])
    have hkr := hr key (by simp [Op.operands])
    have hvr := hr v (by simp [Op.operands])
    generalize ε m = ma at h hm
    generalize ε key = ka at h hkr
    generalize ε v = va at h hvr
    cases ma <;> simp only [wMapUp] at h <;> try (simp at h; done)
    rename_i k
    unfold wMapUpO at h
    split at h
    · rename_i es hk
      cases ht : tMap P t with
      | none => rw [ht] at h; simp [wMapUpM] at h
      | some de =>
        obtain ⟨d, et⟩ := de
        rw [ht] at h
        simp only [wMapUpM, Option.some.injEq, Prod.mk.injEq] at h
        obtain ⟨rfl, rfl, rfl, rfl⟩ := h
        obtain ⟨kt, hu, hd⟩ := tMap_spec ht
        simp only [Rel, List.cons.injEq, and_true] at hm
        obtain ⟨b, cap, esz, hl, ev⟩ := hm
        have ho := hs.own k _ hk
        simp only [OwnOK] at ho
        obtain ⟨b', cap', e', l, clock, hl', hb, hrm⟩ := ho
        rw [hl] at hl'; cases hl'
        have hkey := isKey_rel hC.1 hkr
        have hck := MapKept.run_checkKey (P := P) (w := w) hd hkey false 9999
        rcases setK_rel hC.1 hkr hvr clock es l.toList 0 hrm hC.2 with ⟨h1, h2⟩ | ⟨j, e, h1, h2, h3, h4⟩
        · refine ⟨.junk, undef, c, _, n, _, .inr ⟨?_, rfl⟩, Step.setMap hs hk hl hb (l' := l.push ⟨ρv key, ρv v, clock⟩) (clock' := clock + 1) (by simpa using h2), by simp [Rel], hK⟩
          simp [execOp, ev, Instr.mapUpdate, run_underlying' hu, MapKept.run_getObj_map hb, hck, MapKept.run_findKey hd h1, MapKept.run_setObj_map _ hb, Result.andThen]
        · have hj : l[j]? = some e := by simpa using h2
          refine ⟨.junk, undef, c, _, n, _, .inr ⟨?_, rfl⟩, Step.setMap hs hk hl hb (l' := l.modify j fun e => { e with key := ρv key, val := ρv v }) (clock' := clock) (by simpa using h4), by simp [Rel], hK⟩
          simp [execOp, ev, Instr.mapUpdate, run_underlying' hu, MapKept.run_getObj_map hb, hck, MapKept.run_findKey hd h1, hj, h3, MapKept.run_keyThatStays hkey, MapKept.run_setObj_map _ hb, Result.andThen]
    · simp at h
def wBSl (P : Program) (H : Heap) (n : Nat) (t : TypeId) (len : Nat) (idx : List Nat) (xs : List AV) : Option (Prop × AV × Heap × Nat) :=
  match tEl P t with
  | some (s, _) => some (len = xs.length ∧ idx.length = xs.length ∧ partsOK 0 idx = true ∧ 0 < len ∧ len * s ≤ 2 ^ 24 ∧ (∀ x ∈ xs, x.sz = s ∧ x.memOK = true), .osl n 0 0 len, H.put n (some (.arr 0 s xs)), n + 1)
  | none => none
theorem ot_buildSlice {P : Program} {H : Heap} {n : Nat} {dst : Option Tmp} {t : TypeId} {len : Nat} {ps : Array (Nat × Operand)} {ty : TypeId} {pos : String} {after : Array Edge} {guard : Option (Nat × Bool)} {ε : Operand → AV}
    {C : Prop} {r : AV} {H' : Heap} {n' : Nat} {K : ARes → Heap → Nat → Prop}
    (h : wBSl P H n t len (ps.toList.map (·.1)) (ps.toList.map fun p => ε p.2) = some (C, r, H', n')) (hC : C) (hK : K (.val r) H' n') : OpT P ⟨dst, .buildSlice t len ps, ty, pos, after, guard⟩ ε H n K :=
  OpT.of_run fun c w ρv hs hr => by
  unfold wBSl at h
  split at h
  · rename_i s bb ht
    simp only [Option.some.injEq, Prod.mk.injEq] at h
    obtain ⟨rfl, rfl, rfl, rfl⟩ := h
    obtain ⟨e1, e2, e3, e4, e5, e6⟩ := hC
    obtain ⟨e, i, z, hu, hi, hz, hzs, hpos, hsz, _⟩ := tEl_spec ht
    obtain ⟨ps⟩ := ps
    simp only at e1 e2 e3 e6
    have hT : RelT c (ps.map fun p => ε p.2) (ps.map fun p => ρv p.2) := by
      have := RelT.of_map (c := c) (ε := ε) (ρv := ρv) (ps.map (·.2)) (fun x hx => hr x (by simp only [Op.operands]; simpa using hx))
      simpa [List.map_map, Function.comp_def] using this
    obtain ⟨hF, hsizes⟩ := RelF.of_vals _ _ hT (fun x hx => (e6 x hx).2)
    have hvs : ∀ v ∈ (ps.map fun p => ρv p.2), v.cells.size = s := fun v hv => by
      obtain ⟨j, hj⟩ := List.mem_iff_getElem?.1 hv
      have hjl : j < (ps.map fun p => ε p.2).length := by
        rcases Nat.lt_or_ge j (ps.map fun p => ε p.2).length with h | h
        · exact h
        · rw [List.getElem?_eq_none (by simpa using h)] at hj; simp at hj
      rw [hsizes j _ v (List.getElem?_eq_getElem hjl) hj]
      exact (e6 _ (List.getElem_mem hjl)).1
    have hl : len = ps.length := by simpa using e1
    obtain ⟨arr, ha, hal⟩ := fill_seq s (ps.map fun p => ρv p.2) 0 [] ((List.range (len * s)).map (z.cells[· % z.cells.size]!)) (by simp) (by simp [hl]) hvs
    have hzip : (List.range' 0 (ps.map fun p => ρv p.2).length).zip (ps.map fun p => ρv p.2) = ps.map fun p => (p.1, ρv p.2) := by
      have := partsOK_range _ _ e3
      have e : List.range' 0 (ps.map fun p => ρv p.2).length = ps.map (·.1) := by rw [this]; simp
      rw [e, List.zip_map']
    rw [hzip] at ha
    have hds := (RelF.len _ _ hF).1
    rw [AV.szs_uniform (fun x hx => (e6 x hx).1)] at hds
    have hsz2 : arr.size = len * s := by
      have h1 : arr.toList = ((ps.map fun p => ρv p.2).flatMap fun v => v.cells.toList) := by simpa using hal
      have h2 : arr.size = arr.toList.length := by simp
      rw [h2, h1, hds, e1]
    refine ⟨_, .slice (some ⟨w.heap.size, 0, none⟩) len len, _, _, _, w.alloc (.cells arr e), .inl ?_, Step.newOwn hs arr e len s _ _ (fun x hx => (e6 x hx).1) (by rw [← e1]; exact Nat.le_refl _) hsz2 hF (At.self (by simpa using hal)), ?_, hK⟩
    · have hne : ¬ len * i.size = 0 := by rw [hsz]; have := Nat.mul_pos e4 (hsz ▸ hpos); omega
      have hsm : ¬ len * i.size > 2 ^ 24 := by rw [hsz]; omega
      have hfill : Instr.fill (fun j => some (j * i.size, i.size)) ((Array.range (len * i.size)).map (z.cells[· % z.cells.size]!)) ((ps.map fun p => (p.1, ρv p.2)).toArray).toList = some arr := by
        rw [hsz]
        have : (Array.range (len * s)).map (z.cells[· % z.cells.size]!) = ([] ++ (List.range (len * s)).map (z.cells[· % z.cells.size]!)).toArray := by
          apply Array.ext'; simp
        rw [this]; exact ha
      have hrun : (Instr.buildSlice t len (ps.map fun p => (p.1, ρv p.2)).toArray).run P w = .ok (.slice (some ⟨w.heap.size, 0, none⟩) len len) (w.alloc (.cells arr e)) := by
        simp only [Instr.buildSlice, Sem.run_bind, run_underlying' hu, Result.andThen_ok, run_sizeOf' hi]
        simp only [hsm, hne, if_false, Sem.run_ite, Sem.run_bind, zeroValue, typeInfo, run_program, hi, hz, Sem.run_pure, Result.andThen_ok, hfill, newRow, run_newObj]
        rfl
      simp [execOp, hrun]
    · simp only [Rel]
      exact ⟨_, Ctx.addLoc_same, len, 0, Nat.le_refl _, by omega, .inr (by simp), rfl⟩
  · simp at h
end Go.Sx
namespace Go.Sx
open Go
def wConvO (P : Program) (H : Heap) (n : Nat) (s d : TypeId) (k ver off len : Nat) : Option AObj → Option (Prop × AV × Heap × Nat)
  | some (.arr ver' e els) => some (s = d ∧ tIsBy P s = true ∧ ver' = ver ∧ off = 0 ∧ len = els.length ∧ 0 < els.length, .sl e els, H.put k none, n)
  | _ => none
def wConv (P : Program) (H : Heap) (n : Nat) (s d : TypeId) : AV → Option (Prop × AV × Heap × Nat)
  | .osl k ver off len => wConvO P H n s d k ver off len (H k)
  | _ => none
theorem Sim.fringe {c : Ctx} {H : Heap} {n : Nat} {w : World} (h : Sim c H n w) {b : Nat} {a : Array Value} {ty : TypeId} {fr fr' : Nat × Nat} (hb : c.ro b = some a) (hw : w.heap[b]? = some (.cells a ty fr)) :
    Sim c H n { w with heap := w.heap.setIfInBounds b (.cells a ty fr') } := by
  have hlt : b < w.heap.size := by
    rcases Nat.lt_or_ge b w.heap.size with h | h
    · exact h
    · rw [Array.getElem?_eq_none h] at hw; simp at hw
  have hself : (w.heap.setIfInBounds b (.cells a ty fr'))[b]? = some (.cells a ty fr') := by simp [hlt]
  have hother : ∀ j, j ≠ b → (w.heap.setIfInBounds b (.cells a ty fr'))[j]? = w.heap[j]? := fun j hj => by
    rw [Array.getElem?_setIfInBounds]; rw [if_neg (Ne.symm hj)]
  exact {
    ro := fun b' a' hb' => by
      by_cases e : b' = b
      · subst e
        rw [hb] at hb'; cases hb'
        exact ⟨_, _, hself⟩
      · show ∃ ty fr, (w.heap.setIfInBounds b _)[b']? = _
        rw [hother b' e]; exact h.ro b' a' hb'
    own := fun k o hk => (h.own k o hk).mono (.refl _) (fun b' hb' => by
      have : b' ≠ b := fun e => by subst e; have := h.sep k o b' hk hb'; rw [hb] at this; simp at this
      exact hother b' this)
    sep := h.sep
    inj := h.inj
    fresh := h.fresh
    vers := h.vers }
theorem modify_set {a : Array Obj} {i : Nat} {x : Obj} {f : Obj → Obj} (h : a[i]? = some x) : a.modify i f = a.setIfInBounds i (f x) := by
  apply Array.ext_getElem?
  intro j
  rw [Array.getElem?_modify, Array.getElem?_setIfInBounds]
  by_cases e : i = j
  · subst e
    have hlt : i < a.size := by
      rcases Nat.lt_or_ge i a.size with h' | h'
      · exact h'
      · rw [Array.getElem?_eq_none h'] at h; simp at h
    have : a[i] = x := by rw [Array.getElem?_eq_getElem hlt] at h; simpa using h
    simp [hlt, this]
  · simp [e]
theorem ot_conv {P : Program} {H : Heap} {n : Nat} {dst : Option Tmp} {s d : TypeId} {x : Operand} {ty : TypeId} {pos : String} {after : Array Edge} {guard : Option (Nat × Bool)} {ε : Operand → AV}
    {C : Prop} {r : AV} {H' : Heap} {n' : Nat} {K : ARes → Heap → Nat → Prop}
    (h : wConv P H n s d (ε x) = some (C, r, H', n')) (hC : C) (hK : K (.val r) H' n') : OpT P ⟨dst, .convert s d x, ty, pos, after, guard⟩ ε H n K :=
  OpT.of_run fun c w ρv hs hr => by
    have hx := hr x (by simp [Op.operands])
    generalize ε x = xa at h hx
    cases xa <;> simp only [wConv] at h <;> try (simp at h; done)
    rename_i k ver off len
    cases hk : H k with
    | none => rw [hk] at h; simp [wConvO] at h
    | some o =>
      cases o with
      | map es => rw [hk] at h; simp [wConvO] at h
      | arr ver' e els =>
        rw [hk] at h
        simp only [wConvO, Option.some.injEq, Prod.mk.injEq] at h
        obtain ⟨rfl, rfl, rfl, rfl⟩ := h
        obtain ⟨rfl, hby, rfl, rfl, rfl, hpos⟩ := hC
        obtain ⟨el, hu, he⟩ := tIsBy_spec hby
        obtain ⟨c', hst, hfz, _⟩ := Step.freeze hs k ver' e els hk
        have hrel := hfz 0 els.length (ρv x) (by omega) hx
        have ho := hs.own k _ hk
        simp only [OwnOK] at ho
        obtain ⟨l, hl, hm⟩ := ho
        have hx' := hx
        simp only [Rel] at hx'
        obtain ⟨l', hl', hmm⟩ := hx'
        rw [hl] at hl'; cases hl'
        cases l with
        | nil => have : els = [] := hm; subst this; simp at hpos
        | blk b cap e' =>
          obtain ⟨he', hz, hc, arr, tty, ds, hb, hsz, hrf, ha⟩ := hm
          obtain ⟨cp, o', h1, h2, h3, ev⟩ := hmm
          have ev : ρv x = .slice (some ⟨b, o', none⟩) els.length cp := by simpa using ev
          have hbo : blockOf c k (.arr ver' e els) = some b := by simp [blockOf, AObj.ver, hl]
          rw [List.drop_zero, List.take_length] at hrel
          have hro : c'.ro b = some arr := by
            have hrel2 := hrel
            rw [ev] at hrel2
            simp only [Rel] at hrel2
            obtain ⟨a0, cap0, e0, _, _, h4⟩ := hrel2
            rcases h4 with h4 | ⟨bb, off, arr', ds', e1, h5, _, _⟩
            · subst h4; simp at hpos
            · simp only [List.cons.injEq, and_true, Value.slice.injEq] at e0
              obtain ⟨e0, _, _⟩ := e0
              rw [← e0] at e1
              simp only [Option.some.injEq, Addr.mk.injEq, and_true] at e1
              obtain ⟨rfl, _⟩ := e1
              obtain ⟨ty2, fr2, hw2⟩ := hst.sim.ro b arr' h5
              rw [hb] at hw2
              simp only [Option.some.injEq, Obj.cells.injEq] at hw2
              rw [h5, hw2.1]
          have hsh : w.shape? b = some (tty, arr.size) := by unfold World.shape?; rw [hb]
          refine ⟨_, ρv x, c', H.put k none, n, { w with heap := w.heap.setIfInBounds b (.cells arr tty (arr.size, arr.size + 1)) }, .inl ?_, ?_, hrel, hK⟩
          · have hfr : w.freeze ⟨b, arr.size, none⟩ 1 = { w with heap := w.heap.setIfInBounds b (.cells arr tty (arr.size, arr.size + 1)) } := by
              unfold World.freeze
              rw [if_neg (by decide), modify_set hb]
              rfl
            simp [execOp, ev, convert, run_underlying' hu, run_underlying' he, markStringish, hsh, hfr]
          · exact {
              le := hst.le
              sim := hst.sim.fringe hro hb
              fr := {
                os := rfl
                tape := rfl
                output := rfl
                size := by simp
                keep := fun b' hb' hS => by
                  have : b' ≠ b := fun e => hS ⟨k, _, hk, by rw [e]; exact hbo⟩
                  show (w.heap.setIfInBounds b _)[b']? = _
                  rw [Array.getElem?_setIfInBounds, if_neg (Ne.symm this)] }
              new := hst.new }
end Go.Sx
namespace Go.Sx
open Go
inductive OpClass where
  | q
  | w
  | c (fo : Operand) (args : Array Operand)
def opClass : Op → OpClass
  | .store _ _ _ | .box _ _ | .alloc _ | .makeMap _ _ | .mapUpdate _ _ _ _ | .buildSlice _ _ _ => .w
  | .call ⟨.builtin .append, _, _⟩ => .w
  | .call ⟨.value fo, args, _⟩ => .c fo args
  | .convert s d _ => if s = d then .w else .q
  | _ => .q
def wAppL (P : Program) (H : Heap) (n : Nat) (T : Nat → AV) : List Operand → List TypeId → Option (Prop × AV × Heap × Nat)
  | [x, y], [t, t'] => if t = t' then wAppend P H n t (evO T x) (evO T y) else none
  | _, _ => none
def wBS (P : Program) (z : TypeId → AV) (H : Heap) (n : Nat) (T : Nat → AV) (t : TypeId) (len : Nat) (ps : Array (Nat × Operand)) : AV → Option (Prop × AV × Heap × Nat)
  | .bool true => wBSl P H n t len (ps.toList.map (·.1)) (ps.toList.map fun p => evO T p.2)
  | _ => (opQ P z H true T (.buildSlice t len ps)).map fun r => (r.1, r.2, H, n)
def wCv (P : Program) (z : TypeId → AV) (H : Heap) (n : Nat) (T : Nat → AV) (s d : TypeId) (x : Operand) : AV → Option (Prop × AV × Heap × Nat)
  | .osl k ver off len => wConv P H n s d (.osl k ver off len)
  | _ => (opQ P z H true T (.convert s d x)).map fun r => (r.1, r.2, H, n)
def opW (P : Program) (z : TypeId → AV) (H : Heap) (n : Nat) (T : Nat → AV) : Op → Option (Prop × AV × Heap × Nat)
  | .store t x v => wStore P H n t (evO T x) (evO T v)
  | .box _ x => wBox H n (evO T x)
  | .alloc t => wAlloc P z H n t
  | .call ⟨.builtin .append, args, ts⟩ => wAppL P H n T args.toList ts.toList
  | .makeMap t r => wMakeMap P H n t (r.map (evO T))
  | .mapUpdate t m k v => wMapUp P H n t (evO T k) (evO T v) (evO T m)
  | .buildSlice t len ps => wBS P z H n T t len ps (z 4294967295)
  | .convert s d x => wCv P z H n T s d x (evO T x)
  | _ => none
theorem ot_wBS {P : Program} {z : TypeId → AV} {H : Heap} {n : Nat} {T : Nat → AV} {dst : Option Tmp} {t : TypeId} {len : Nat} {ps : Array (Nat × Operand)} {ty : TypeId} {pos : String} {after : Array Edge} {guard : Option (Nat × Bool)} {zz : AV}
    {C : Prop} {r : AV} {H' : Heap} {n' : Nat} {K : ARes → Heap → Nat → Prop}
    (h : wBS P z H n T t len ps zz = some (C, r, H', n')) (hC : C) (hK : K (.val r) H' n') : OpT P ⟨dst, .buildSlice t len ps, ty, pos, after, guard⟩ (evO T) H n K := by
  unfold wBS at h
  split at h
  · exact ot_buildSlice h hC hK
  · cases hq : opQ P z H true T (.buildSlice t len ps) with
    | none => rw [hq] at h; simp at h
    | some p =>
      rw [hq] at h
      simp only [Option.map_some, Option.some.injEq, Prod.mk.injEq] at h
      obtain ⟨rfl, rfl, rfl, rfl⟩ := h
      exact OpT.of_qt (opQ_sound hq rfl hC) hK
theorem ot_wCv {P : Program} {z : TypeId → AV} {H : Heap} {n : Nat} {T : Nat → AV} {dst : Option Tmp} {s d : TypeId} {x : Operand} {ty : TypeId} {pos : String} {after : Array Edge} {guard : Option (Nat × Bool)}
    {C : Prop} {r : AV} {H' : Heap} {n' : Nat} {K : ARes → Heap → Nat → Prop}
    (h : wCv P z H n T s d x (evO T x) = some (C, r, H', n')) (hC : C) (hK : K (.val r) H' n') : OpT P ⟨dst, .convert s d x, ty, pos, after, guard⟩ (evO T) H n K := by
  unfold wCv at h
  split at h
  · rename_i he
    exact ot_conv (ε := evO T) (by rw [he]; exact h) hC hK
  · cases hq : opQ P z H true T (.convert s d x) with
    | none => rw [hq] at h; simp at h
    | some p =>
      rw [hq] at h
      simp only [Option.map_some, Option.some.injEq, Prod.mk.injEq] at h
      obtain ⟨rfl, rfl, rfl, rfl⟩ := h
      exact OpT.of_qt (opQ_sound hq rfl hC) hK
theorem opW_sound {P : Program} {z : TypeId → AV} {H : Heap} {n : Nat} {T : Nat → AV} {dst : Option Tmp} {op : Op} {ty : TypeId} {pos : String} {after : Array Edge} {guard : Option (Nat × Bool)}
    {C : Prop} {r : AV} {H' : Heap} {n' : Nat} {K : ARes → Heap → Nat → Prop}
    (h : opW P z H n T op = some (C, r, H', n')) (hC : C) (hK : K (.val r) H' n') : OpT P ⟨dst, op, ty, pos, after, guard⟩ (evO T) H n K := by
  unfold opW at h
  split at h
  · exact ot_store h hC hK
  · exact ot_box h hC hK
  · exact ot_alloc h hC hK
  · rename_i args ts
    unfold wAppL at h
    split at h
    · rename_i x y t t' e1 e2
      split at h
      · rename_i e
        subst e
        obtain ⟨az⟩ := args
        obtain ⟨tts⟩ := ts
        simp only at e1 e2
        subst e1; subst e2
        exact ot_append h hC hK
      · simp at h
    · simp at h
  · exact ot_makeMap h hC hK
  · exact ot_mapUp h hC hK
  · exact ot_wBS h hC hK
  · exact ot_wCv h hC hK
  · simp at h
def dOK (N : Nat) : Option Tmp → Prop
  | none => True
  | some d => d < N
structure callG (P : Program) (g : Bool) (fv : AV) (args : List AV) (H : Heap) (n : Nat) (k : AV → Heap → Nat → Prop) (kp : AV → Heap → Nat → Prop) : Prop where
  yes : g = true → callK P fv args H n (fun r H' n' => k (.opt true r) H' n') kp
  no : g = false → ∃ r, k (.opt false r) H n
@[congr] theorem callG_congr {P : Program} {g g' : Bool} {fv fv' : AV} {args args' : List AV} {H H' : Heap} {n n' : Nat} {k kp : AV → Heap → Nat → Prop} (h0 : g = g') (h1 : fv = fv') (h2 : args = args') (h3 : H = H') (h4 : n = n') :
    callG P g fv args H n k kp = callG P g' fv' args' H' n' k kp := by rw [h0, h1, h2, h3, h4]
def erun (P : Program) (z : TypeId → AV) (N : Nat) (ops : Array Oper) : List Oper → (Nat → AV) → Heap → Nat → (AEx → (Nat → AV) → Heap → Nat → Prop) → Prop
  | [], T, H, n, Q => Q .normal T H n
  | ⟨dst, op, _, _, _, none⟩ :: os, T, H, n, Q => dOK N dst ∧ match opClass op with
    | .q => cont (opQ P z H true T op) fun r => erun P z N ops os (tput T dst r) H n Q
    | .w => contW (opW P z H n T op) fun r H' n' => erun P z N ops os (tput T dst r) H' n' Q
    | .c fo args => callK P (evO T fo) (args.toList.map (evO T)) H n (fun r H' n' => erun P z N ops os (tput T dst r) H' n' Q) (fun p H' n' => Q (.pan p) T H' n')
  | ⟨dst, op, _, _, _, some (j, b)⟩ :: os, T, H, n, Q => dOK N dst ∧ contB ((gtmp ops j).bind fun t => gval (T t) b) fun g => match opClass op with
    | .q => contG g (opQ P z H g T op) fun r => erun P z N ops os (tput T dst r) H n Q
    | .w => (g = true → contW (opW P z H n T op) fun r H' n' => erun P z N ops os (tput T dst r) H' n' Q) ∧ (g = false → erun P z N ops os (tput T dst (.opt false .junk)) H n Q)
    | .c fo args => callG P g (strip g (evO T fo)) (args.toList.map fun x => strip g (evO T x)) H n (fun r H' n' => erun P z N ops os (tput T dst r) H' n' Q) (fun p H' n' => Q (.pan p) T H' n')
def lrun (P : Program) (N : Nat) (ops : Array Oper) (l : List Oper) (T : Nat → AV) (H : Heap) (n : Nat) (Q : AEx → (Nat → AV) → Heap → Nat → Prop) : Prop :=
  ∀ (c : Ctx) (w : World) (a : Act), Sim c H n w → RelTmps c T a.tmps → a.tmps.size = N → a.defers = [] → wpList P ops (APost N c H w Q) l a w
section
variable {P : Program} {z : TypeId → AV} {N : Nat} {ops : Array Oper} {T : Nat → AV} {H : Heap} {n : Nat} {Q : AEx → (Nat → AV) → Heap → Nat → Prop}
theorem wpList_mono {Q Q' : Exit → Act → World → Prop} (hq : ∀ e a w, Q e a w → Q' e a w) : ∀ (l : List Oper) (a : Act) (w : World), wpList P ops Q l a w → wpList P ops Q' l a w
  | [], _, _, h => hq _ _ _ h
  | o :: l, a, w, h => by
    have ih := wpList_mono hq l
    unfold wpList at h ⊢
    split
    · rename_i hw
      rw [if_pos hw] at h
      refine h.imp (fun h => ?_) (fun ⟨h1, a', w', h2⟩ => ⟨h1, a', w', hq _ _ _ h2⟩)
      unfold Oper.wp at h ⊢
      generalize (execOp a.eval o).run P w = r at *
      cases r with
      | ok nx w' =>
        cases nx <;> simp only [Oper.upon] at h ⊢ <;> first
          | exact ih _ _ h
          | exact Calls.mono h (fun e w'' he => by cases e <;> first | exact ih _ _ he | exact hq _ _ _ he | (obtain ⟨a', w', h2⟩ := he; exact ⟨a', w', hq _ _ _ h2⟩))
          | exact Rows.mono h (fun _ _ he => ih _ _ he)
          | exact h
      | halt x w' => cases x <;> simp only [Oper.upon] at h ⊢ <;> first | exact hq _ _ _ h | exact h
    · rename_i hw
      rw [if_neg hw] at h
      exact ih _ _ h
theorem put_size (a : Act) (dst : Option Tmp) (v : Value) : (a.put dst v).tmps.size = a.tmps.size := by cases dst <;> simp [Act.put]
theorem put_defers' (a : Act) (dst : Option Tmp) (v : Value) : (a.put dst v).defers = a.defers := by cases dst <;> rfl
theorem lrun_step {o : Oper} {os : List Oper} {ε : Operand → AV} {k : AV → Heap → Nat → Prop} {kp : AV → Heap → Nat → Prop} (hd : dOK N o.dst)
    (h : OpT P o ε H n (fun res H' n' => match res with | .val r => k r H' n' | .pan p => kp p H' n'))
    {c : Ctx} {w : World} {a : Act} (hs : Sim c H n w) (hr : RelTmps c T a.tmps) (hN : a.tmps.size = N) (hdf : a.defers = []) (hw : Region.wanted o (yielded ops a.tmps) = true)
    (hε : ∀ x ∈ o.op.operands, Rel c (ε x) false [a.eval x]) (f : AV → AV) (hf : ∀ c' r v, Rel c' r false [v] → Rel c' (f r) false [v])
    (hk : ∀ r H' n', k r H' n' → lrun P N ops os (tput T o.dst (f r)) H' n' Q) (hp : ∀ p H' n', kp p H' n' → Q (.pan p) T H' n') :
    wpList P ops (APost N c H w Q) (o :: os) a w := by
  unfold wpList
  rw [if_pos hw]
  left
  have hd' : ∀ d, o.dst = some d → d < a.tmps.size := fun d hd2 => by rw [hd2] at hd; rw [hN]; exact hd
  refine h c w a hs hε _ _ (fun r v c' H' n' w' hK hst hrel => ?_) (fun p v c' H' n' w' hK hst hrel => ?_)
  · refine wpList_mono (fun e a w hp => hp.step hst) os _ _ (hk r H' n' hK c' w' _ hst.sim (tput_rel (RelTmps.mono hst.le hr) (hf _ _ _ hrel) hd') (by rw [put_size, hN]) (by rw [put_defers', hdf]))
  · exact ⟨.pan p, c', T, H', n', hp p H' n' hK, ⟨v, rfl, hrel⟩, hst, RelTmps.mono hst.le hr, hN, hdf⟩
theorem lrun_skip {o : Oper} {os : List Oper} (hd : dOK N o.dst)
    {c : Ctx} {w : World} {a : Act} (hs : Sim c H n w) (hr : RelTmps c T a.tmps) (hN : a.tmps.size = N) (hdf : a.defers = []) (hw : Region.wanted o (yielded ops a.tmps) = false) (r : AV)
    (h : lrun P N ops os (tput T o.dst (.opt false r)) H n Q) : wpList P ops (APost N c H w Q) (o :: os) a w := by
  unfold wpList
  rw [if_neg (by simp [hw])]
  have hd' : ∀ d, o.dst = some d → d < a.tmps.size := fun d hd2 => by rw [hd2] at hd; rw [hN]; exact hd
  exact h c w _ hs (tput_rel hr (by simp [Rel]) hd') (by rw [put_size, hN]) (by rw [put_defers', hdf])
theorem wanted_none {o : Oper} {y : Nat → Option Bool} (h : o.guard = none) : Region.wanted o y = true := by simp [Region.wanted, h]
theorem opt_rel {g : Bool} {c : Ctx} {r : AV} {v : Value} (hg : g = true) (h : Rel c r false [v]) : Rel c (.opt g r) false [v] := by
  simp only [Rel]; exact .inl ⟨hg, h⟩
theorem erun_sound : ∀ (l : List Oper) (T : Nat → AV) (H : Heap) (n : Nat), erun P z N ops l T H n Q → lrun P N ops l T H n Q
  | [], T, H, n, h => fun c w a hs hr hN hd => ⟨.normal, c, T, H, n, h, trivial, .refl hs, hr, hN, hd⟩
  | ⟨dst, op, ty, pos, after, none⟩ :: os, T, H, n, h => fun c w a hs hr hN hd => by
    unfold erun at h
    obtain ⟨hdst, h⟩ := h
    have hw : Region.wanted ⟨dst, op, ty, pos, after, none⟩ (yielded ops a.tmps) = true := wanted_none rfl
    have hε : ∀ x ∈ op.operands, Rel c (evO T x) false [a.eval x] := fun x _ => evO_rel hr x
    split at h
    · cases hq : opQ P z H true T op with
      | none => rw [hq] at h; exact h.elim
      | some p =>
        obtain ⟨C, r⟩ := p
        rw [hq] at h
        obtain ⟨hC, h⟩ := h
        exact lrun_step (k := fun r' H' n' => r' = r ∧ H' = H ∧ n' = n) (kp := fun _ _ _ => False) hdst (OpT.of_qt (opQ_sound hq rfl hC) ⟨rfl, rfl, rfl⟩) hs hr hN hd hw hε id (fun _ _ _ h => h)
          (by rintro _ _ _ ⟨rfl, rfl, rfl⟩; exact erun_sound os _ _ _ h) (fun _ _ _ h => h.elim)
    · cases hq : opW P z H n T op with
      | none => rw [hq] at h; exact h.elim
      | some p =>
        obtain ⟨C, r, H', n'⟩ := p
        rw [hq] at h
        obtain ⟨hC, h⟩ := h
        exact lrun_step (k := fun r2 H2 n2 => r2 = r ∧ H2 = H' ∧ n2 = n') (kp := fun _ _ _ => False) hdst (opW_sound hq hC ⟨rfl, rfl, rfl⟩) hs hr hN hd hw hε id (fun _ _ _ h => h)
          (by rintro _ _ _ ⟨rfl, rfl, rfl⟩; exact erun_sound os _ _ _ h) (fun _ _ _ h => h.elim)
    · rename_i fo args hcl
      unfold opClass at hcl
      split at hcl
      all_goals first
        | (simp at hcl; done)
        | (split at hcl <;> simp at hcl; done)
        | (simp only [OpClass.c.injEq] at hcl
           obtain ⟨rfl, rfl⟩ := hcl
           exact lrun_step hdst (OpT.call h) hs hr hN hd hw hε id (fun _ _ _ h => h) (fun r H' n' hk => erun_sound os _ _ _ hk) (fun _ _ _ h => h))
  | ⟨dst, op, ty, pos, after, some (j, b)⟩ :: os, T, H, n, h => fun c w a hs hr hN hd => by
    unfold erun at h
    obtain ⟨hdst, h⟩ := h
    cases ht : gtmp ops j with
    | none => rw [ht] at h; exact h.elim
    | some t =>
      rw [ht] at h
      simp only [Option.bind_some] at h
      cases hgv : gval (T t) b with
      | none => rw [hgv] at h; exact h.elim
      | some g =>
        rw [hgv] at h
        have hwg : Region.wanted ⟨dst, op, ty, pos, after, some (j, b)⟩ (yielded ops a.tmps) = g := gval_spec hr rfl ht hgv
        simp only [contB] at h
        have hε : ∀ x ∈ op.operands, Rel c (evO T x) false [a.eval x] := fun x _ => evO_rel hr x
        split at h
        · cases hq : opQ P z H g T op with
          | none =>
            rw [hq] at h
            obtain ⟨hg, h⟩ := h
            rw [hg] at hwg h
            exact lrun_skip hdst hs hr hN hd hwg _ (erun_sound os _ _ _ h)
          | some p =>
            obtain ⟨C, r⟩ := p
            rw [hq] at h
            obtain ⟨hC, h⟩ := h
            cases g with
            | true =>
              exact lrun_step (k := fun r' H' n' => r' = r ∧ H' = H ∧ n' = n) (kp := fun _ _ _ => False) hdst (OpT.of_qt (opQ_sound hq rfl (hC rfl)) ⟨rfl, rfl, rfl⟩) hs hr hN hd hwg hε (.opt true) (fun _ _ _ h => opt_rel rfl h)
                (by rintro _ _ _ ⟨rfl, rfl, rfl⟩; exact erun_sound os _ _ _ h) (fun _ _ _ h => h.elim)
            | false => exact lrun_skip hdst hs hr hN hd hwg _ (erun_sound os _ _ _ h)
        · cases g with
          | true =>
            have h := h.1 rfl
            cases hq : opW P z H n T op with
            | none => rw [hq] at h; exact h.elim
            | some p =>
              obtain ⟨C, r, H', n'⟩ := p
              rw [hq] at h
              obtain ⟨hC, h⟩ := h
              exact lrun_step (k := fun r2 H2 n2 => r2 = r ∧ H2 = H' ∧ n2 = n') (kp := fun _ _ _ => False) hdst (opW_sound hq hC ⟨rfl, rfl, rfl⟩) hs hr hN hd hwg hε id (fun _ _ _ h => h)
                (by rintro _ _ _ ⟨rfl, rfl, rfl⟩; exact erun_sound os _ _ _ h) (fun _ _ _ h => h.elim)
          | false => exact lrun_skip hdst hs hr hN hd hwg _ (erun_sound os _ _ _ (h.2 rfl))
        · rename_i fo args hcl
          unfold opClass at hcl
          split at hcl
          all_goals first
            | (simp at hcl; done)
            | (split at hcl <;> simp at hcl; done)
            | (simp only [OpClass.c.injEq] at hcl
               obtain ⟨rfl, rfl⟩ := hcl
               cases g with
               | true =>
                 exact lrun_step hdst (OpT.call (ε := fun x => strip true (evO T x)) (h.1 rfl)) hs hr hN hd hwg (fun x hx => strip_rel rfl (hε x hx)) (.opt true) (fun _ _ _ h => opt_rel rfl h) (fun r H' n' hk => erun_sound os _ _ _ hk) (fun _ _ _ h => h)
               | false =>
                 obtain ⟨r, h⟩ := h.2 rfl
                 exact lrun_skip hdst hs hr hN hd hwg _ (erun_sound os _ _ _ h))
theorem awp_region {id : Nat} (z : TypeId → AV) (h : erun P z N ops ops.toList T H n Q) : awp P N (.region id ops false) T H n Q := fun c w a hs hr hN hd =>
  wp_region_list (erun_sound _ _ _ _ h c w a hs hr hN hd)
end
def resT (r : AV) : Option (Prop × List AV) → Option (Prop × List AV)
  | some (C, l) => some (C, r :: l)
  | none => none
def resL : Option (Prop × AV) → Option (Prop × List AV) → Option (Prop × List AV)
  | some (C1, r), some (C, l) => some (C1 ∧ C, r :: l)
  | _, _ => none
def resC (P : Program) (H : Heap) (T : Nat → AV) : List ResultVar → Option (Prop × List AV)
  | [] => some (True, [])
  | .tmp t :: rs => resT (T t) (resC P H T rs)
  | .cell a t :: rs => resL (qLoad P H t (T a)) (resC P H T rs)
def resV : List AV → AV
  | [r] => r
  | rs => .tup rs
def results1 (tmps : Array Value) : ResultVar → Sem Value
  | .tmp t => pure (tmps.getD t undef)
  | .cell a t => do loadVar t (← asAddr (tmps.getD a undef))
theorem resC_sound {P : Program} {H : Heap} {T : Nat → AV} {c : Ctx} {n : Nat} {w : World} {tmps : Array Value} (hs : Sim c H n w) (hr : RelTmps c T tmps) :
    ∀ (rs : List ResultVar) (C : Prop) (l : List AV), resC P H T rs = some (C, l) → C → ∃ vs, (rs.mapM (results1 tmps)).run P w = .ok vs w ∧ RelT c l vs
  | [], C, l, h, _ => by
    simp only [resC, Option.some.injEq, Prod.mk.injEq] at h
    obtain ⟨_, rfl⟩ := h
    exact ⟨[], by simp, by simp [RelT]⟩
  | .tmp t :: rs, C, l, h, hC => by
    simp only [resC] at h
    unfold resT at h
    split at h
    · rename_i C' l' hh
      simp only [Option.some.injEq, Prod.mk.injEq] at h
      obtain ⟨rfl, rfl⟩ := h
      obtain ⟨vs, hv, hrel⟩ := resC_sound hs hr rs _ _ hh hC
      refine ⟨tmps.getD t undef :: vs, ?_, ?_⟩
      · simp only [List.mapM_cons, Sem.run_bind, results1, Sem.run_pure, Result.andThen_ok, hv]
      · simp only [RelT]; exact ⟨_, _, rfl, hr t, hrel⟩
    · simp at h
  | .cell a t :: rs, C, l, h, hC => by
    simp only [resC] at h
    unfold resL at h
    split at h
    · rename_i C1 r C' l' hq hh
      simp only [Option.some.injEq, Prod.mk.injEq] at h
      obtain ⟨rfl, rfl⟩ := h
      obtain ⟨vs, hv, hrel⟩ := resC_sound hs hr rs _ _ hh hC.2
      have hl := qs_load (P := P) (ε := fun _ => T a) (H := H) (t := t) (x := .tmp 0) hq hC.1
      obtain ⟨v, c', w', hrun, hst, hrv⟩ := hl none 0 "" #[] none c n w (fun _ => tmps.getD a undef) hs (fun x _ => hr a)
      have hx := hr a
      have key : ∃ ad, tmps.getD a undef = .pointer (some ad) := by
        cases hT : T a <;> rw [hT] at hq hx <;> simp only [qLoad] at hq <;> try (simp at hq; done)
        · simp only [Rel, List.cons.injEq, and_true] at hx
          obtain ⟨b, off, _, _, e, _⟩ := hx
          exact ⟨_, e⟩
        · simp only [Rel, List.cons.injEq, and_true] at hx
          obtain ⟨b, _, _, _, e⟩ := hx
          exact ⟨_, e⟩
      obtain ⟨ad, had⟩ := key
      have hrun2 : (loadVar t ad).run P w = .ok v w ∧ Rel c r false [v] := by
        have hp : QS P (.load t (.tmp 0)) (fun _ => T a) H r := hl
        have hx2 := hr a
        cases hT : T a <;> rw [hT] at hq hx2 <;> simp only [qLoad] at hq <;> try (simp at hq; done)
        · rename_i d
          simp only [Option.some.injEq, Prod.mk.injEq] at hq
          obtain ⟨h1, rfl⟩ := hq
          have hC1 := hC.1
          rw [← h1] at hC1
          simp only [Rel, List.cons.injEq, and_true] at hx2
          obtain ⟨b, off, arr, ds, ev, hb, hd, ha⟩ := hx2
          obtain ⟨ty', fr, hw⟩ := hs.ro b arr hb
          obtain ⟨v2, hv2, hrel2⟩ := run_loadVar_at (P := P) hd hw ha hC1.1 hC1.2
          rw [had] at ev
          cases ev
          have e2 : (execOp (fun _ => tmps.getD a undef) ⟨none, .load t (.tmp 0), 0, "", #[], none⟩).run P w = .ok (.value v2) w := by simp [execOp, had, Instr.loadAt, Instr.sureAddr, hv2]
          rw [e2] at hrun
          cases hrun
          exact ⟨hv2, hrel2⟩
        · rename_i k ver off i p
          unfold qLoadO at hq
          split at hq
          · rename_i ver' esz els hk
            simp only [Option.some.injEq, Prod.mk.injEq, nth] at hq
            obtain ⟨h1, rfl⟩ := hq
            have hC1 := hC.1
            rw [← h1] at hC1
            obtain ⟨e1, e2, e3, e4, e5, e6⟩ := hC1
            subst e1
            simp only [Rel, List.cons.injEq, and_true] at hx2
            obtain ⟨b, cap, esz', hl', ev⟩ := hx2
            obtain ⟨he, hc, arr, ty', ds, x, hb, hsz, hr', ha, hx3, hax, _⟩ := (hs.own k _ hk).elem hl' e2
            obtain ⟨a1, y, b1, ey, hly, hy⟩ := Rel.path p _ _ hx3 e4
            subst ey
            obtain ⟨_, ha2⟩ := At.append.1 hax
            obtain ⟨ha3, _⟩ := At.append.1 ha2
            rw [hly, ← e3] at ha3
            obtain ⟨v2, hv2, hrel2⟩ := run_loadVar_at (P := P) hy hb ha3 e5 e6
            rw [had] at ev
            cases ev
            have e2 : (execOp (fun _ => tmps.getD a undef) ⟨none, .load t (.tmp 0), 0, "", #[], none⟩).run P w = .ok (.value v2) w := by simp [execOp, had, Instr.loadAt, Instr.sureAddr, hv2]
            rw [e2] at hrun
            cases hrun
            exact ⟨hv2, hrel2⟩
          · simp at hq
      refine ⟨v :: vs, ?_, ?_⟩
      · simp only [List.mapM_cons, Sem.run_bind, results1, had, asAddr, Sem.run_pure, Result.andThen_ok, hrun2.1, hv]
      · simp only [RelT]; exact ⟨_, _, rfl, hrun2.2, hrel⟩
    · simp at h
theorem results_run {P : Program} {fn : Func} {H : Heap} {T : Nat → AV} {c : Ctx} {n : Nat} {w : World} {tmps : Array Value} (hs : Sim c H n w) (hr : RelTmps c T tmps) {C : Prop} {l : List AV}
    (h : resC P H T fn.results.toList = some (C, l)) (hC : C) : ∃ v, (results fn tmps).run P w = .ok v w ∧ Rel c (resV l) false [v] := by
  obtain ⟨vs, hv, hrel⟩ := resC_sound (P := P) hs hr _ _ _ h hC
  have e : fn.results.mapM (results1 tmps) = Functor.map List.toArray (fn.results.toList.mapM (results1 tmps)) := by
    rw [Array.mapM_eq_mapM_toList]
  have hm : (fn.results.mapM (results1 tmps)).run P w = .ok vs.toArray w := by rw [e]; simp [hv]
  have hres : (results fn tmps).run P w = .ok (if h : vs.toArray.size = 1 then vs.toArray[0] else .tuple vs.toArray) w := by
    have : results fn tmps = (do
        let vs ← fn.results.mapM (results1 tmps)
        pure (if h : vs.size = 1 then vs[0] else .tuple vs)) := by
      unfold results
      congr 1
    rw [this, Sem.run_bind, hm]
    rfl
  refine ⟨_, hres, ?_⟩
  match l, vs, hrel with
  | [], _, hrel => simp only [RelT] at hrel; subst hrel; simp [resV, Rel, RelT]
  | [r], _, hrel =>
    simp only [RelT] at hrel
    obtain ⟨v, r', rfl, h1, rfl⟩ := hrel
    simpa [resV] using h1
  | r1 :: r2 :: rs, _, hrel =>
    have hrel' := hrel
    simp only [RelT] at hrel
    obtain ⟨v, _, rfl, _, v2, r', rfl, _, _⟩ := hrel
    simp only [resV, Rel]
    exact ⟨_, by simp, hrel'⟩
def contL (x : Option (Prop × List AV)) (k : List AV → Prop) : Prop :=
  match x with
  | some (C, r) => C ∧ k r
  | none => False
theorem contL_some (C : Prop) (r : List AV) (k : List AV → Prop) : contL (some (C, r)) k = (C ∧ k r) := rfl
@[congr] theorem contL_congr {x y : Option (Prop × List AV)} {k : List AV → Prop} (h : x = y) : contL x k = contL y k := by rw [h]
def Fin (P : Program) (rs : List ResultVar) (K : ARes → Heap → Nat → Prop) : AEx → (Nat → AV) → Heap → Nat → Prop
  | .normal, T, H, n => contL (resC P H T rs) fun l => K (.val (resV l)) H n
  | .ret, T, H, n => contL (resC P H T rs) fun l => K (.val (resV l)) H n
  | .pan p, _, H, n => K (.pan p) H n
  | .exit _, _, _, _ => False
def gtmpL : List Oper → Nat → Option Tmp
  | [], _ => none
  | o :: _, 0 => o.dst
  | _ :: l, j + 1 => gtmpL l j
theorem gtmpL_eq (l : List Oper) (j : Nat) : gtmpL l j = (l[j]?).bind (·.dst) := by
  induction l generalizing j with
  | nil => simp [gtmpL]
  | cons o l ih => cases j <;> simp [gtmpL, ih]
def tl : List (Nat × AV) → Nat → AV
  | [], _ => .junk
  | (k, v) :: l, t => if t = k then v else tl l t
theorem tput_tl (l : List (Nat × AV)) (d : Nat) (r : AV) : tput (tl l) (some d) r = tl ((d, r) :: l) := by
  funext t; simp [tput, tl]
theorem tput_none (T : Nat → AV) (r : AV) : tput T none r = T := rfl
def tsel (live : List Nat) (T : Nat → AV) : Nat → AV := tl (live.map fun t => (t, T t))
theorem tsel_eq (live : List Nat) (T : Nat → AV) : tsel live T = tl (live.map fun t => (t, T t)) := rfl
theorem tsel_rel {c : Ctx} {T : Nat → AV} {tmps : Array Value} (live : List Nat) (h : RelTmps c T tmps) : RelTmps c (tsel live T) tmps := fun t => by
  unfold tsel
  induction live with
  | nil => simp [tl, Rel]
  | cons x l ih =>
    simp only [List.map_cons, tl]
    split
    · rename_i e; subst e; exact h t
    · exact ih
def argT (args : List AV) : Nat → AV := fun t => args.getD t .junk
def argL : Nat → List AV → List (Nat × AV)
  | _, [] => []
  | k, a :: l => (k, a) :: argL (k + 1) l
theorem argT_rel (args : List AV) : tl (argL 0 args) = argT args := by
  have : ∀ k t, tl (argL k args) t = if t < k then .junk else args.getD (t - k) .junk := by
    induction args with
    | nil => intro k t; simp [argL, tl]
    | cons a l ih =>
      intro k t
      simp only [argL, tl, ih]
      split
      · rename_i e; subst e; simp
      · rename_i e
        by_cases h : t < k
        · rw [if_pos h, if_pos (by omega)]
        · rw [if_neg h, if_neg (by omega), show t - k = (t - (k + 1)) + 1 by omega]
          simp
  funext t
  simpa [argT] using this 0 t
section
variable {P : Program} {z : TypeId → AV} {N : Nat} {ops : Array Oper} {T : Nat → AV} {H : Heap} {n : Nat} {Q : AEx → (Nat → AV) → Heap → Nat → Prop}
theorem awp_sel (live : List Nat) {code : Code} (h : awp P N code (tsel live T) H n Q) : awp P N code T H n Q := fun c w a hs hr hN hd => h c w a hs (tsel_rel live hr) hN hd
theorem awp_reg {id : Nat} {l : List Oper} {y : Code} (z : TypeId → AV) (live : List Nat)
    (h : ∀ K : (Nat → AV) → Heap → Nat → Prop, (∀ T H n, awp P N y T H n Q → K T H n) → erun P z N l.toArray l T H n (AThen (fun T' H' n' => K (tsel live T') H' n') Q)) :
    awp P N (.seq (.region id l.toArray false) y) T H n Q :=
  awp_seq (awp_region z (by simpa using h (fun T' H' n' => awp P N y T' H' n' Q) (fun _ _ _ h => h)) |>.mono fun e T' H' n' hq => by
    cases e <;> first | exact awp_sel live hq | exact hq)
end
theorem acalls_of_awp {P : Program} {f : FuncId} {fn : Func} {code : Code} {args : List AV} {H : Heap} {n N : Nat} {rs : List ResultVar} {K : ARes → Heap → Nat → Prop}
    (hf : P.funcs[f]? = some fn) (hb : fn.body = some code) (hN : fn.ntmps = N) (hrs : fn.results.toList = rs) (hlen : args.length ≤ N) (h : awp P N code (tl (argL 0 args)) H n (Fin P rs K)) : ACalls P f args H n K := fun c w vs hs hr => by
  rw [argT_rel] at h
  subst hN
  subst hrs
  have hl : vs.length = args.length := by
    clear h hlen
    induction args generalizing vs with
    | nil => simp only [RelT] at hr; subst hr; rfl
    | cons x xs ih =>
      simp only [RelT] at hr
      obtain ⟨v, r, rfl, _, h2⟩ := hr
      simp [ih r h2]
  refine calls_of_wp hf hb (Go.wp_mono (h c w ⟨vs.toArray ++ Array.replicate (fn.ntmps - vs.toArray.size) undef, []⟩ hs ?_ (by simp; omega) rfl) ?_)
  · intro t
    rcases Nat.lt_or_ge t args.length with ht | ht
    · obtain ⟨v, hv, hrel⟩ := RelT.nth hr (List.getElem?_eq_getElem ht)
      have e : (vs.toArray ++ Array.replicate (fn.ntmps - vs.toArray.size) undef).getD t undef = v := by
        rw [Array.getD_eq_getD_getElem?, Array.getElem?_append_left (by simpa [hl] using ht)]
        simp [hv]
      rw [e]
      simpa [argT, List.getD, List.getElem?_eq_getElem ht] using hrel
    · have : argT args t = .junk := by simp [argT, List.getD, List.getElem?_eq_none ht]
      rw [this]
      simp [Rel]
  · rintro e a' w' ⟨ae, c', T', H', n', hQ, hm, hst, hr', _, hd⟩
    have fin : ∀ (x : Option (Prop × List AV)), x = resC P H' T' fn.results.toList → contL x (fun l => K (.val (resV l)) H' n') →
        ∃ v, (results fn a'.tmps).run P w' = .ok v w' ∧ ∃ res c' H' n', K res H' n' ∧ Step c H w c' H' n' w' ∧
          match Ending.returned v, res with
          | .returned v, .val r => Rel c' r false [v]
          | .panicked ch, .pan p => ∃ v, ch = [{ v, recovered := false }] ∧ Rel c' p false [v]
          | _, _ => False := fun x hx hc => by
      cases x with
      | none => exact hc.elim
      | some p =>
        obtain ⟨C, l⟩ := p
        obtain ⟨hC, hK⟩ := hc
        obtain ⟨v, hv, hrel⟩ := results_run hst.sim hr' hx.symm hC
        exact ⟨v, hv, .val _, c', H', n', hK, hst, hrel⟩
    cases ae with
    | normal =>
      cases e <;> simp only [exMatch] at hm
      exact ⟨hd, fin _ rfl hQ⟩
    | ret =>
      cases e <;> simp only [exMatch] at hm
      exact ⟨hd, fin _ rfl hQ⟩
    | exit i => exact hQ.elim
    | pan p =>
      cases e <;> simp only [exMatch] at hm
      exact ⟨hd, .pan p, c', H', n', hQ, hst, hm⟩
theorem erun_q {P : Program} {z : TypeId → AV} {N : Nat} {ops : Array Oper} {T : Nat → AV} {H : Heap} {n : Nat} {Q : AEx → (Nat → AV) → Heap → Nat → Prop} {dst : Option Tmp} {op : Op} {ty : TypeId} {pos : String} {after : Array Edge} {os : List Oper} (h : opClass op = .q) :
    erun P z N ops (⟨dst, op, ty, pos, after, none⟩ :: os) T H n Q = (dOK N dst ∧ cont (opQ P z H true T op) fun r => erun P z N ops os (tput T dst r) H n Q) := by rw [erun.eq_2, h]
theorem erun_w {P : Program} {z : TypeId → AV} {N : Nat} {ops : Array Oper} {T : Nat → AV} {H : Heap} {n : Nat} {Q : AEx → (Nat → AV) → Heap → Nat → Prop} {dst : Option Tmp} {op : Op} {ty : TypeId} {pos : String} {after : Array Edge} {os : List Oper} (h : opClass op = .w) :
    erun P z N ops (⟨dst, op, ty, pos, after, none⟩ :: os) T H n Q = (dOK N dst ∧ contW (opW P z H n T op) fun r H' n' => erun P z N ops os (tput T dst r) H' n' Q) := by rw [erun.eq_2, h]
theorem erun_c {P : Program} {z : TypeId → AV} {N : Nat} {ops : Array Oper} {T : Nat → AV} {H : Heap} {n : Nat} {Q : AEx → (Nat → AV) → Heap → Nat → Prop} {dst : Option Tmp} {fo : Operand} {args : List Operand} {ts : Array TypeId} {ty : TypeId} {pos : String} {after : Array Edge} {os : List Oper} :
    erun P z N ops (⟨dst, .call ⟨.value fo, args.toArray, ts⟩, ty, pos, after, none⟩ :: os) T H n Q = (dOK N dst ∧ callK P (evO T fo) (args.map (evO T)) H n (fun r H' n' => erun P z N ops os (tput T dst r) H' n' Q) (fun p H' n' => Q (.pan p) T H' n')) := by rw [erun.eq_2]; rfl
theorem erun_gq {P : Program} {z : TypeId → AV} {N : Nat} {ops : Array Oper} {T : Nat → AV} {H : Heap} {n : Nat} {Q : AEx → (Nat → AV) → Heap → Nat → Prop} {dst : Option Tmp} {op : Op} {ty : TypeId} {pos : String} {after : Array Edge} {os : List Oper} {j : Nat} {b : Bool} (h : opClass op = .q) :
    erun P z N ops (⟨dst, op, ty, pos, after, some (j, b)⟩ :: os) T H n Q = (dOK N dst ∧ contB ((gtmp ops j).bind fun t => gval (T t) b) fun g => contG g (opQ P z H g T op) fun r => erun P z N ops os (tput T dst r) H n Q) := by rw [erun.eq_3, h]
theorem erun_gc {P : Program} {z : TypeId → AV} {N : Nat} {ops : Array Oper} {T : Nat → AV} {H : Heap} {n : Nat} {Q : AEx → (Nat → AV) → Heap → Nat → Prop} {dst : Option Tmp} {fo : Operand} {args : List Operand} {ts : Array TypeId} {ty : TypeId} {pos : String} {after : Array Edge} {os : List Oper} {j : Nat} {b : Bool} :
    erun P z N ops (⟨dst, .call ⟨.value fo, args.toArray, ts⟩, ty, pos, after, some (j, b)⟩ :: os) T H n Q = (dOK N dst ∧ contB ((gtmp ops j).bind fun t => gval (T t) b) fun g =>
      callG P g (strip g (evO T fo)) (args.map fun x => strip g (evO T x)) H n (fun r H' n' => erun P z N ops os (tput T dst r) H' n' Q) (fun p H' n' => Q (.pan p) T H' n')) := by rw [erun.eq_3]; rfl
theorem opQ_len {P : Program} {z : TypeId → AV} {H : Heap} {g : Bool} {T : Nat → AV} {b : Builtin} {args : List Operand} {ts : List TypeId} : opQ P z H g T (.call ⟨.builtin b, args.toArray, ts.toArray⟩) = qCall P b ts (args.map fun x => strip g (evO T x)) := by simp [opQ]
theorem gtmp_eq (l : List Oper) (j : Nat) : gtmp l.toArray j = gtmpL l j := by
  rw [gtmpL_eq]; unfold gtmp; simp
theorem callK_fn (P : Program) (f : FuncId) (first captured : List AV) (args : List AV) (H : Heap) (n : Nat) (k kp : AV → Heap → Nat → Prop) :
    callK P (.fn (.func f) first captured) args H n k kp = (((∃ fn : Func, P.funcs[f]? = some fn ∧ fn.body.isSome ∧ (fn.name == "runtime.NumGoroutine") = false) ∧ ACalls P f (first ++ args ++ captured) H n fun res H' n' => match res with
      | .val r => k r H' n'
      | .pan p => kp p H' n') ∨ ExtC P f (first ++ args ++ captured) H n k) := rfl
theorem callK_use {P : Program} {f : FuncId} {fn : Func} {first captured args args' : List AV} {H : Heap} {n : Nat} {k kp : AV → Heap → Nat → Prop} {r : AV} {H' : Heap} {n' : Nat}
    (hf : P.funcs[f]? = some fn) (hb : fn.body.isSome = true) (hn : (fn.name == "runtime.NumGoroutine") = false) (ha : first ++ args ++ captured = args') (h : Ret P f args' H n r H' n') (hk : k r H' n') : callK P (.fn (.func f) first captured) args H n k kp := by
  rw [callK_fn]
  exact .inl ⟨⟨fn, hf, hb, hn⟩, by rw [ha]; exact h.use hk⟩
theorem callG_use {P : Program} {g : Bool} {f : FuncId} {fn : Func} {first captured args args' : List AV} {H : Heap} {n : Nat} {k kp : AV → Heap → Nat → Prop} {r : AV}
    (hf : P.funcs[f]? = some fn) (hb : fn.body.isSome = true) (hn : (fn.name == "runtime.NumGoroutine") = false) (ha : first ++ args ++ captured = args') (h : g = true → Ret P f args' H n r H n) (hk : k (.opt g r) H n) : callG P g (.fn (.func f) first captured) args H n k kp := by
  refine ⟨fun hg => ?_, fun hg => ⟨r, hg ▸ hk⟩⟩
  subst hg
  exact callK_use hf hb hn ha (h rfl) hk
end Go.Sx
namespace Go.Sx
open Go
inductive DK where
  | m
  | q
  | c
  | w (inc : List Nat)
section
variable (P : Program) (z : TypeId → AV) (N : Nat) (ops : Array Oper)
def gvO (T : Nat → AV) (o : Oper) : Option Bool :=
  match o.guard with
  | none => some true
  | some (j, b) => (gtmp ops j).bind fun t => gval (T t) b
def putG (o : Oper) (g : Bool) (r : AV) : AV :=
  match o.guard with
  | none => r
  | some _ => .opt g r
def CallQ (fv : AV) (args : List AV) (H : Heap) (r : AV) : Prop := ∀ n, callK P fv args H n (fun r' H' n' => r' = r ∧ H' = H ∧ n' = n) (fun _ _ _ => False)
def sameOne (q : Nat) (T : Nat → AV) (H H' : Heap) : Prop :=
  match ops[q]? with
  | none => True
  | some o =>
    match o.op, o.guard with
    | .call ⟨.value fo, args, _⟩, none => ∀ d, o.dst = some d → CallQ P (strip true (evO T fo)) (args.toList.map fun x => strip true (evO T x)) H' (T d)
    | .call ⟨.value _, _, _⟩, some _ => False
    | op, _ => ∀ g, gvO ops T o = some g → opQ P z H' g T op = opQ P z H g T op
def dstep (i : Nat) (k : DK) (I : List Nat) (T : Nat → AV) (H : Heap) (n : Nat) (K : (Nat → AV) → Heap → Nat → Prop) (Q : AEx → (Nat → AV) → Heap → Nat → Prop) : Prop :=
  match ops[i]? with
  | none => False
  | some o => dOK N o.dst ∧ match k with
    | .m => contB (gvO ops T o) fun g => match o.op with
      | .move x => K (tput T o.dst (putG o g (strip g (evO T x)))) H n
      | _ => False
    | .q => contB (gvO ops T o) fun g => match opQ P z H g T o.op with
      | some (C, r) => (g = true → C) ∧ K (tput T o.dst (putG o g r)) H n
      | none => g = false ∧ K (tput T o.dst (putG o g .junk)) H n
    | .c => match o.op with
      | .call ⟨.value fo, args, _⟩ => contB (gvO ops T o) fun g => ∃ r, (g = true → CallQ P (strip g (evO T fo)) (args.toList.map fun x => strip g (evO T x)) H r) ∧ K (tput T o.dst (putG o g r)) H n
      | _ => False
    | .w _ => o.guard = none ∧ match o.op with
      | .call ⟨.value fo, args, _⟩ => callK P (evO T fo) (args.toList.map (evO T)) H n (fun r H' n' => (∀ q ∈ I, sameOne P z ops q T H H') ∧ K (tput T o.dst r) H' n') (fun p H' n' => Q (.pan p) T H' n')
      | op => contW (opW P z H n T op) fun r H' n' => (∀ q ∈ I, sameOne P z ops q T H H') ∧ K (tput T o.dst r) H' n'
def DK.inc : DK → List Nat
  | .w I => I
  | _ => []
def drun : List (Nat × DK × List Nat) → (Nat → AV) → Heap → Nat → (AEx → (Nat → AV) → Heap → Nat → Prop) → Prop
  | [], T, H, n, Q => Q .normal T H n
  | (i, k, I) :: l, T, H, n, Q => dstep P z N ops i k I T H n (fun T H n => drun l T H n Q) Q
variable {P z N ops}
theorem callK_mono2 {fv : AV} {args : List AV} {H : Heap} {n : Nat} {k k' kp kp' : AV → Heap → Nat → Prop} (hk : ∀ r H n, k r H n → k' r H n) (hp : ∀ r H n, kp r H n → kp' r H n) (h : callK P fv args H n k kp) : callK P fv args H n k' kp' := by
  cases fv <;> simp only [callK] at h
  rename_i f first captured
  cases f <;> simp only at h
  rcases h with h | h
  · exact .inl ⟨h.1, h.2.mono fun r H n hr => by cases r <;> first | exact hk _ _ _ hr | exact hp _ _ _ hr⟩
  · exact .inr fun c w vs hs hr => let ⟨r, v, c', H', n', w', h1, h2, h3, h4⟩ := h c w vs hs hr; ⟨r, v, c', H', n', w', h1, h2, h3, hk _ _ _ h4⟩
theorem callK_mono {fv : AV} {args : List AV} {H : Heap} {n : Nat} {k k' kp : AV → Heap → Nat → Prop} (hk : ∀ r H n, k r H n → k' r H n) (h : callK P fv args H n k kp) : callK P fv args H n k' kp := callK_mono2 hk (fun _ _ _ h => h) h
theorem dstep_mono2 {i : Nat} {k : DK} {I : List Nat} {T : Nat → AV} {H : Heap} {n : Nat} {K K' : (Nat → AV) → Heap → Nat → Prop} {Q Q' : AEx → (Nat → AV) → Heap → Nat → Prop}
    (hk : ∀ T H n, K T H n → K' T H n) (hq : ∀ p T H n, Q (.pan p) T H n → Q' (.pan p) T H n) (h : dstep P z N ops i k I T H n K Q) : dstep P z N ops i k I T H n K' Q' := by
  unfold dstep at h ⊢
  split
  · rename_i e; rw [e] at h; exact h
  · rename_i o e
    rw [e] at h
    obtain ⟨hd, h⟩ := h
    refine ⟨hd, ?_⟩
    cases k with
    | m =>
      simp only at h ⊢
      cases hg : gvO ops T o with
      | none => rw [hg] at h; exact h.elim
      | some g =>
        rw [hg] at h
        simp only [contB] at h ⊢
        split
        · rename_i x ex; rw [ex] at h; exact hk _ _ _ h
        · rename_i hne; split at h
          · rename_i x ex; exact (hne x ex).elim
          · exact h.elim
    | q =>
      simp only at h ⊢
      cases hg : gvO ops T o with
      | none => rw [hg] at h; exact h.elim
      | some g =>
        rw [hg] at h
        simp only [contB] at h ⊢
        cases hq : opQ P z H g T o.op with
        | none => rw [hq] at h; exact ⟨h.1, hk _ _ _ h.2⟩
        | some p => rw [hq] at h; exact ⟨h.1, hk _ _ _ h.2⟩
    | c =>
      simp only at h ⊢
      split
      · rename_i fo args ts ex
        rw [ex] at h
        cases hg : gvO ops T o with
        | none => rw [hg] at h; exact h.elim
        | some g =>
          rw [hg] at h
          obtain ⟨r, h1, h2⟩ := h
          exact ⟨r, h1, hk _ _ _ h2⟩
      · rename_i hne; split at h
        · rename_i fo args ts ex; exact (hne _ _ _ ex).elim
        · exact h.elim
    | w inc =>
      simp only at h ⊢
      refine ⟨h.1, ?_⟩
      have h := h.2
      split
      · rename_i fo args ts ex
        rw [ex] at h
        exact callK_mono2 (fun r H n hr => ⟨hr.1, hk _ _ _ hr.2⟩) (fun p H n hp => hq _ _ _ _ hp) h
      · rename_i hne
        split at h
        · rename_i fo args ts ex; exact (hne _ _ _ ex).elim
        · cases hw : opW P z H n T o.op with
          | none => rw [hw] at h; exact h.elim
          | some p => rw [hw] at h; exact ⟨h.1, h.2.1, hk _ _ _ h.2.2⟩
theorem dstep_mono {i : Nat} {k : DK} {I : List Nat} {T : Nat → AV} {H : Heap} {n : Nat} {K K' : (Nat → AV) → Heap → Nat → Prop} {Q : AEx → (Nat → AV) → Heap → Nat → Prop}
    (hk : ∀ T H n, K T H n → K' T H n) (h : dstep P z N ops i k I T H n K Q) : dstep P z N ops i k I T H n K' Q := dstep_mono2 hk (fun _ _ _ _ h => h) h
theorem drun_mono_tail {Q : AEx → (Nat → AV) → Heap → Nat → Prop} {b b' : List (Nat × DK × List Nat)} (hb : ∀ T H n, drun P z N ops b T H n Q → drun P z N ops b' T H n Q) :
    ∀ (a : List (Nat × DK × List Nat)) (T : Nat → AV) (H : Heap) (n : Nat), drun P z N ops (a ++ b) T H n Q → drun P z N ops (a ++ b') T H n Q
  | [], T, H, n, h => hb T H n h
  | (i, k, I) :: a, T, H, n, h => dstep_mono (fun T H n h => drun_mono_tail hb a T H n h) h
theorem evO_tput {T : Nat → AV} {dst : Option Tmp} {r : AV} {x : Operand} (h : ∀ d, dst = some d → x ≠ .tmp d) : evO (tput T dst r) x = evO T x := by
  cases dst with
  | none => rfl
  | some d =>
    cases x with
    | tmp t =>
      have : t ≠ d := fun e => h d rfl (by rw [e])
      simp [evO, tput, this]
    | _ => rfl
def opTmps (op : Op) : List Tmp := op.operands.toList.filterMap fun | .tmp t => some t | _ => none
theorem mem_opTmps {op : Op} {t : Tmp} (h : Operand.tmp t ∈ op.operands) : t ∈ opTmps op :=
  List.mem_filterMap.2 ⟨.tmp t, by simpa using h, rfl⟩
theorem evO_op {T : Nat → AV} {dst : Option Tmp} {r : AV} {op : Op} (h : ∀ d, dst = some d → d ∉ opTmps op) {x : Operand} (hx : x ∈ op.operands) : evO (tput T dst r) x = evO T x :=
  evO_tput fun d hd e => h d hd (mem_opTmps (e ▸ hx))
theorem opQ_tput {H : Heap} {g : Bool} {T : Nat → AV} {dst : Option Tmp} {r : AV} {op : Op} (h : ∀ d, dst = some d → d ∉ opTmps op) : opQ P z H g (tput T dst r) op = opQ P z H g T op := by
  have e : ∀ x ∈ op.operands, evO (tput T dst r) x = evO T x := fun x hx => evO_op h hx
  unfold opQ
  split <;> simp only [Op.operands, Call.operands] at e
  all_goals first
    | rfl
    | (rw [e _ (by simp)]; done)
    | (rw [e _ (by simp), e _ (by simp)]; done)
    | (rw [e _ (by simp), e _ (by simp), e _ (by simp)]; done)
    | (congr 1; apply List.map_congr_left; intro x hx; rw [e x (by simpa using hx)]; done)
    | (rename_i t x lo hi mx
       have e1 : ∀ (y : Option Operand), (∀ o, y = some o → o ∈ (Op.slice t x lo hi mx).operands) → (y.map fun o => strip g (evO (tput T dst r) o)) = y.map fun o => strip g (evO T o) := fun y hy => by
         cases y with
         | none => rfl
         | some o => simp only [Option.map_some]; rw [evO_op h (hy o rfl)]
       rw [e1 lo (fun o ho => by simp [Op.operands, ho]), e1 hi (fun o ho => by simp [Op.operands, ho]), e1 mx (fun o ho => by simp [Op.operands, ho]), e x (by simp)]; done)
    | (rename_i t ps
       have e1 : (ps.toList.map fun p => (p.1, strip g (evO (tput T dst r) p.2))) = ps.toList.map fun p => (p.1, strip g (evO T p.2)) := List.map_congr_left fun p hp => by
         rw [e p.2 (by simp; exact ⟨p.1, by simpa using hp⟩)]
       rw [e1]; done)
    | (rename_i t len ps
       have e1 : (ps.toList.map fun p => strip g (evO (tput T dst r) p.2)) = ps.toList.map fun p => strip g (evO T p.2) := List.map_congr_left fun p hp => by
         rw [e p.2 (by simp; exact ⟨p.1, by simpa using hp⟩)]
       rw [e1]; done)
    | (rename_i fn a b
       have e1 : (a.toList.map fun x => strip g (evO (tput T dst r) x)) = a.toList.map fun x => strip g (evO T x) := List.map_congr_left fun x hx => by
         rw [e x (by simp at hx; simp [hx])]
       have e2 : (b.toList.map fun x => strip g (evO (tput T dst r) x)) = b.toList.map fun x => strip g (evO T x) := List.map_congr_left fun x hx => by
         rw [e x (by simp at hx; simp [hx])]
       rw [e1, e2]; done)
    | (rename_i x y z; rw [e x (by simp), e y (by simp), e z (by simp)])
    | (rename_i t x i; rw [e x (by simp), e i (by simp)])
    | (rename_i o t x y _; rw [e x (by simp), e y (by simp)])
theorem opW_tput {H : Heap} {n : Nat} {T : Nat → AV} {dst : Option Tmp} {r : AV} {op : Op} (h : ∀ d, dst = some d → d ∉ opTmps op) : opW P z H n (tput T dst r) op = opW P z H n T op := by
  have e : ∀ x ∈ op.operands, evO (tput T dst r) x = evO T x := fun x hx => evO_op h hx
  unfold opW
  split <;> simp only [Op.operands] at e
  · rename_i t x v; rw [e x (by simp), e v (by simp)]
  · rename_i t x; rw [e x (by simp)]
  · rfl
  · rename_i args ts
    unfold wAppL
    split
    · rename_i x y t t' e1 e2
      have h1 : evO (tput T dst r) x = evO T x := e x (by simp [Call.operands]; rw [← Array.mem_toList_iff, e1]; simp)
      have h2 : evO (tput T dst r) y = evO T y := e y (by simp [Call.operands]; rw [← Array.mem_toList_iff, e1]; simp)
      rw [h1, h2]
    · rfl
  · rename_i t r0
    cases r0 with
    | none => rfl
    | some x => simp only [Option.map_some]; rw [e x (by simp)]
  · rename_i t m k v; rw [e k (by simp), e v (by simp), e m (by simp)]
  · rename_i t len ps
    unfold wBS
    rw [opQ_tput h]
    have e1 : (ps.toList.map fun p => evO (tput T dst r) p.2) = ps.toList.map fun p => evO T p.2 := List.map_congr_left fun p hp => by
      rw [e p.2 (by simp; exact ⟨p.1, by simpa using hp⟩)]
    rw [e1]
  · rename_i s d x
    unfold wCv
    rw [opQ_tput h, e x (by simp)]
  · rfl
def gTmps (o : Oper) : List Tmp :=
  match o.guard with
  | some (j, _) => (gtmp ops j).toList
  | none => []
def looks (o : Oper) : List Tmp := opTmps o.op ++ gTmps (ops := ops) o
theorem gvO_tput {T : Nat → AV} {dst : Option Tmp} {r : AV} {o : Oper} (h : ∀ d, dst = some d → d ∉ gTmps (ops := ops) o) : gvO ops (tput T dst r) o = gvO ops T o := by
  unfold gvO gTmps at *
  cases hg : o.guard with
  | none => rfl
  | some jb =>
    obtain ⟨j, b⟩ := jb
    rw [hg] at h
    simp only at h ⊢
    cases ht : gtmp ops j with
    | none => rfl
    | some t =>
      rw [ht] at h
      simp only [Option.bind_some]
      cases dst with
      | none => rfl
      | some d =>
        have hne : t ≠ d := fun e => h d rfl (by simp [e])
        simp [tput, hne]
theorem tput_comm (T : Nat → AV) {x y : Option Tmp} (r s : AV) (h : ∀ d, x = some d → y ≠ some d) : tput (tput T x r) y s = tput (tput T y s) x r := by
  cases x with
  | none => rfl
  | some d =>
    cases y with
    | none => rfl
    | some e =>
      have hne : d ≠ e := fun he => h d rfl (by rw [he])
      funext t
      simp only [tput]
      by_cases h1 : t = d
      · subst h1; simp [hne]
      · by_cases h2 : t = e <;> simp [h1, h2, Ne.symm hne]
def Apart (o o' : Oper) : Prop :=
  (∀ d, o.dst = some d → d ∉ looks (ops := ops) o') ∧ (∀ d, o'.dst = some d → d ∉ looks (ops := ops) o) ∧ (∀ d, o.dst = some d → o'.dst ≠ some d)
theorem sameOne_tput_iff {q : Nat} {T : Nat → AV} {dst : Option Tmp} {r : AV} {H H' : Heap} (h : ∀ o, ops[q]? = some o → ∀ d, dst = some d → d ∉ looks (ops := ops) o ∧ o.dst ≠ some d) :
    sameOne P z ops q (tput T dst r) H H' ↔ sameOne P z ops q T H H' := by
  unfold sameOne
  split
  · exact Iff.rfl
  · rename_i o ho
    have hl := h o ho
    have h1 : ∀ d, dst = some d → d ∉ opTmps o.op := fun d hd hm => (hl d hd).1 (List.mem_append_left _ hm)
    have h2 : ∀ d, dst = some d → d ∉ gTmps (ops := ops) o := fun d hd hm => (hl d hd).1 (List.mem_append_right _ hm)
    split
    · rename_i fo args ts hop hgd
      rw [hop] at h1
      have e : ∀ x ∈ (Op.call ⟨.value fo, args, ts⟩).operands, evO (tput T dst r) x = evO T x := fun x hx => evO_op h1 hx
      simp only [Op.operands, Call.operands] at e
      have e2 : (args.toList.map fun x => strip true (evO (tput T dst r) x)) = args.toList.map fun x => strip true (evO T x) := List.map_congr_left fun x hx => by rw [e x (by simp at hx; simp [hx])]
      rw [e fo (by simp), e2]
      refine forall_congr' fun d => forall_congr' fun hd => ?_
      have e3 : tput T dst r d = T d := by
        cases dst with
        | none => rfl
        | some d' =>
          have : d ≠ d' := fun he => (hl d' rfl).2 (by rw [← he]; exact hd)
          simp [tput, this]
      rw [e3]
    · exact Iff.rfl
    · rw [gvO_tput h2]
      refine forall_congr' fun g => forall_congr' fun _ => ?_
      rw [opQ_tput h1, opQ_tput h1]
theorem sameOne_tput {q : Nat} {T : Nat → AV} {dst : Option Tmp} {r : AV} {H H' : Heap} (h : ∀ o, ops[q]? = some o → ∀ d, dst = some d → d ∉ looks (ops := ops) o ∧ o.dst ≠ some d) :
    sameOne P z ops q (tput T dst r) H H' → sameOne P z ops q T H H' := (sameOne_tput_iff h).1
def Good (P : Program) (z : TypeId → AV) (ops : Array Oper) (o : Oper) (k : DK) (T : Nat → AV) (H : Heap) (v : AV) : Prop :=
  match k with
  | .m => ∃ g x, gvO ops T o = some g ∧ o.op = .move x ∧ v = putG o g (strip g (evO T x))
  | .q => ∃ g, gvO ops T o = some g ∧ ((∃ C r, opQ P z H g T o.op = some (C, r) ∧ (g = true → C) ∧ v = putG o g r) ∨ (opQ P z H g T o.op = none ∧ g = false ∧ v = putG o g .junk))
  | .c => ∃ g fo args ts r, gvO ops T o = some g ∧ o.op = .call ⟨.value fo, args, ts⟩ ∧ (g = true → CallQ P (strip g (evO T fo)) (args.toList.map fun x => strip g (evO T x)) H r) ∧ v = putG o g r
  | .w _ => False
def DK.isW : DK → Bool
  | .w _ => true
  | _ => false
theorem dstep_good {i : Nat} {k : DK} {I : List Nat} {T : Nat → AV} {H : Heap} {n : Nat} {K : (Nat → AV) → Heap → Nat → Prop} {Q : AEx → (Nat → AV) → Heap → Nat → Prop} {o : Oper} (ho : ops[i]? = some o) (hk : k.isW = false) :
    dstep P z N ops i k I T H n K Q ↔ dOK N o.dst ∧ ∃ v, Good P z ops o k T H v ∧ K (tput T o.dst v) H n := by
  unfold dstep
  rw [ho]
  simp only
  refine and_congr_right fun _ => ?_
  cases k with
  | w inc => simp [DK.isW] at hk
  | m =>
    simp only [Good]
    cases hg : gvO ops T o with
    | none => simp [contB]
    | some g =>
      simp only [contB]
      constructor
      · intro h
        split at h
        · rename_i x ex; exact ⟨_, ⟨g, x, rfl, ex, rfl⟩, h⟩
        · exact h.elim
      · rintro ⟨v, ⟨g', x, e1, e2, e3⟩, h⟩
        cases e1
        rw [e2]
        subst e3
        exact h
  | q =>
    simp only [Good]
    cases hg : gvO ops T o with
    | none => simp [contB]
    | some g =>
      simp only [contB]
      cases hq : opQ P z H g T o.op with
      | none =>
        constructor
        · rintro ⟨h1, h2⟩; exact ⟨_, ⟨g, rfl, .inr ⟨hq, h1, rfl⟩⟩, h2⟩
        · rintro ⟨v, ⟨g', e1, e2⟩, h⟩
          cases e1
          rcases e2 with ⟨C, r, e2, _⟩ | ⟨_, e3, e4⟩
          · rw [hq] at e2; simp at e2
          · subst e4; exact ⟨e3, h⟩
      | some p =>
        obtain ⟨C, r⟩ := p
        constructor
        · rintro ⟨h1, h2⟩; exact ⟨_, ⟨g, rfl, .inl ⟨C, r, hq, h1, rfl⟩⟩, h2⟩
        · rintro ⟨v, ⟨g', e1, e2⟩, h⟩
          cases e1
          rcases e2 with ⟨C', r', e2, e3, e4⟩ | ⟨e2, _⟩
          · rw [hq] at e2; cases e2; subst e4; exact ⟨e3, h⟩
          · rw [hq] at e2; simp at e2
  | c =>
    simp only [Good]
    constructor
    · intro h
      split at h
      · rename_i fo args ts ex
        cases hg : gvO ops T o with
        | none => rw [hg] at h; exact h.elim
        | some g =>
          rw [hg] at h
          obtain ⟨r, h1, h2⟩ := h
          exact ⟨_, ⟨g, fo, args, ts, r, rfl, ex, h1, rfl⟩, h2⟩
      · exact h.elim
    · rintro ⟨v, ⟨g, fo, args, ts, r, e1, e2, e3, e4⟩, h⟩
      rw [e2]
      simp only [e1, contB]
      subst e4
      exact ⟨r, e3, h⟩
theorem Good.tput {o : Oper} {k : DK} {T : Nat → AV} {H : Heap} {v : AV} {dst : Option Tmp} {r : AV} (h : ∀ d, dst = some d → d ∉ looks (ops := ops) o) :
    Good P z ops o k (tput T dst r) H v ↔ Good P z ops o k T H v := by
  have h1 : ∀ d, dst = some d → d ∉ opTmps o.op := fun d hd hm => h d hd (List.mem_append_left _ hm)
  have h2 : ∀ d, dst = some d → d ∉ gTmps (ops := ops) o := fun d hd hm => h d hd (List.mem_append_right _ hm)
  cases k with
  | w _ => exact Iff.rfl
  | m =>
    simp only [Good, gvO_tput h2]
    constructor
    · rintro ⟨g, x, e1, e2, e3⟩
      rw [evO_op h1 (by rw [e2]; simp [Op.operands])] at e3
      exact ⟨g, x, e1, e2, e3⟩
    · rintro ⟨g, x, e1, e2, e3⟩
      refine ⟨g, x, e1, e2, ?_⟩
      rw [evO_op h1 (by rw [e2]; simp [Op.operands])]
      exact e3
  | q => simp only [Good, gvO_tput h2, opQ_tput h1]
  | c =>
    have key : ∀ fo args ts, o.op = .call ⟨.value fo, args, ts⟩ → evO (Sx.tput T dst r) fo = evO T fo ∧ ∀ g, (args.toList.map fun x => strip g (evO (Sx.tput T dst r) x)) = args.toList.map fun x => strip g (evO T x) := fun fo args ts e => by
      refine ⟨evO_op h1 (by rw [e]; simp [Op.operands, Call.operands]), fun g => List.map_congr_left fun x hx => ?_⟩
      rw [evO_op h1 (by rw [e]; simp at hx; simp [Op.operands, Call.operands, hx])]
    simp only [Good, gvO_tput h2]
    constructor
    · rintro ⟨g, fo, args, ts, r', e1, e2, e3, e4⟩
      obtain ⟨k1, k2⟩ := key fo args ts e2
      rw [k1, k2 g] at e3
      exact ⟨g, fo, args, ts, r', e1, e2, e3, e4⟩
    · rintro ⟨g, fo, args, ts, r', e1, e2, e3, e4⟩
      obtain ⟨k1, k2⟩ := key fo args ts e2
      refine ⟨g, fo, args, ts, r', e1, e2, ?_, e4⟩
      rw [k1, k2 g]; exact e3
theorem Good.heap {q : Nat} {o : Oper} (ho : ops[q]? = some o) {k : DK} {T : Nat → AV} {H H' : Heap} {v : AV} (hg : Good P z ops o k T H v) (hd : ∀ d, o.dst = some d → d ∉ looks (ops := ops) o)
    (hdst : k.isW = false → (∃ d, o.dst = some d) ∨ ∀ fo args ts, o.op ≠ .call ⟨.value fo, args, ts⟩)
    (hs : k = .m ∨ sameOne P z ops q (Sx.tput T o.dst v) H H') : Good P z ops o k T H' v := by
  cases k with
  | m => exact hg
  | w _ => exact hg
  | q =>
    have hs := hs.resolve_left (by simp)
    obtain ⟨g, e1, e2⟩ := hg
    have h1 : ∀ d, o.dst = some d → d ∉ opTmps o.op := fun d hd' hm => hd d hd' (List.mem_append_left _ hm)
    have h2 : ∀ d, o.dst = some d → d ∉ gTmps (ops := ops) o := fun d hd' hm => hd d hd' (List.mem_append_right _ hm)
    unfold sameOne at hs
    rw [ho] at hs
    simp only at hs
    have hqc : ∀ fo args ts, o.op ≠ .call ⟨.value fo, args, ts⟩ ∨ opQ P z H g T o.op = none := fun fo args ts => by
      by_cases e : o.op = .call ⟨.value fo, args, ts⟩
      · right; rw [e]; rfl
      · exact .inl e
    have fin : opQ P z H' g T o.op = opQ P z H g T o.op := by
      split at hs
      · rename_i fo args ts hop hgd
        rw [hop]; rfl
      · exact hs.elim
      · have := hs g (by rw [gvO_tput h2]; exact e1)
        rwa [opQ_tput h1, opQ_tput h1] at this
    exact ⟨g, e1, by rw [fin]; exact e2⟩
  | c =>
    have hs := hs.resolve_left (by simp)
    obtain ⟨g, fo, args, ts, r, e1, e2, e3, e4⟩ := hg
    unfold sameOne at hs
    rw [ho] at hs
    simp only at hs
    rw [e2] at hs
    cases hgd : o.guard with
    | some jb => rw [hgd] at hs; exact hs.elim
    | none =>
      rw [hgd] at hs
      have eg : g = true := by unfold gvO at e1; rw [hgd] at e1; simpa using e1.symm
      have ev : v = r := by rw [e4]; simp [putG, hgd]
      subst ev
      obtain ⟨d, hdd⟩ := (hdst rfl).resolve_right (fun h => h _ _ _ e2)
      have h1 : ∀ d, o.dst = some d → d ∉ opTmps o.op := fun d hd' hm => hd d hd' (List.mem_append_left _ hm)
      have := hs d hdd
      have k1 : ∀ x ∈ (Op.call ⟨.value fo, args, ts⟩).operands, evO (Sx.tput T o.dst v) x = evO T x := fun x hx => evO_op h1 (by rw [e2]; exact hx)
      simp only [Op.operands, Call.operands] at k1
      have k2 : (args.toList.map fun x => strip true (evO (Sx.tput T o.dst v) x)) = args.toList.map fun x => strip true (evO T x) := List.map_congr_left fun x hx => by rw [k1 x (by simp at hx; simp [hx])]
      rw [k1 fo (by simp), k2] at this
      have k3 : Sx.tput T o.dst v d = v := by rw [hdd]; simp [Sx.tput]
      rw [k3] at this
      exact ⟨g, fo, args, ts, v, e1, e2, fun _ => by rw [eg]; exact this, e4⟩
theorem swap_w {i j : Nat} {oi oj : Oper} (hoi : ops[i]? = some oi) (hoj : ops[j]? = some oj) {ki : DK} {inc : List Nat} (hki : ki.isW = false) {I Ii : List Nat}
    (hap : Apart (ops := ops) oi oj) (hself : ∀ d, oi.dst = some d → d ∉ looks (ops := ops) oi) (hdst : ki = .m ∨ ((∃ d, oi.dst = some d) ∨ ∀ fo args ts, oi.op ≠ .call ⟨.value fo, args, ts⟩)) (hin : ki = .m ∨ i ∈ I)
    (hI : ∀ q ∈ I, q ≠ i → ∀ o, ops[q]? = some o → ∀ d, oi.dst = some d → d ∉ looks (ops := ops) o ∧ o.dst ≠ some d)
    {T : Nat → AV} {H : Heap} {n : Nat} {K : (Nat → AV) → Heap → Nat → Prop} {Q : AEx → (Nat → AV) → Heap → Nat → Prop} (hpan : ∀ p T T' H n, Q (.pan p) T H n → Q (.pan p) T' H n)
    (h : dstep P z N ops i ki Ii T H n (fun T1 H1 n1 => dstep P z N ops j (.w inc) I T1 H1 n1 K Q) Q) :
    dstep P z N ops j (.w inc) (I.filter (· != i)) T H n (fun T2 H2 n2 => dstep P z N ops i ki Ii T2 H2 n2 K Q) Q := by
  rw [dstep_good hoi hki] at h
  obtain ⟨hdi, v, hg, h⟩ := h
  unfold dstep at h ⊢
  rw [hoj] at h ⊢
  obtain ⟨hdj, hgd, h⟩ := h
  refine ⟨hdj, hgd, ?_⟩
  have hA1 : ∀ d, oi.dst = some d → d ∉ opTmps oj.op := fun d hd hm => hap.1 d hd (List.mem_append_left _ hm)
  have hfin : ∀ r H' n', ((∀ q ∈ I, sameOne P z ops q (Sx.tput T oi.dst v) H H') ∧ K (Sx.tput (Sx.tput T oi.dst v) oj.dst r) H' n') →
      (∀ q ∈ I.filter (· != i), sameOne P z ops q T H H') ∧ dstep P z N ops i ki Ii (Sx.tput T oj.dst r) H' n' K Q := fun r H' n' ⟨hs, hK⟩ => by
    refine ⟨fun q hq => ?_, ?_⟩
    · obtain ⟨hq1, hq2⟩ := List.mem_filter.1 hq
      exact sameOne_tput (hI q hq1 (by simpa using hq2)) (hs q hq1)
    · rw [dstep_good hoi hki]
      refine ⟨hdi, v, ?_, ?_⟩
      · rw [Good.tput hap.2.1]
        refine Good.heap hoi hg hself (fun _ => ?_) (hin.imp id fun hi => hs i hi)
        rcases hdst with e | e
        · subst e
          obtain ⟨g, x, _, ex, _⟩ := hg
          exact .inr fun fo args ts e => by rw [ex] at e; simp at e
        · exact e
      · rw [tput_comm _ _ _ (fun d hd e => hap.2.2 d e hd)]; exact hK
  split
  · rename_i fo args ts ex
    rw [ex] at h hA1
    simp only at h
    have e : ∀ x ∈ (Op.call ⟨.value fo, args, ts⟩).operands, evO (Sx.tput T oi.dst v) x = evO T x := fun x hx => evO_op hA1 hx
    simp only [Op.operands, Call.operands] at e
    have e2 : args.toList.map (evO (Sx.tput T oi.dst v)) = args.toList.map (evO T) := List.map_congr_left fun x hx => e x (by simp at hx; simp [hx])
    rw [e fo (by simp), e2] at h
    have h' := callK_mono (k' := fun r H' n' => (∀ q ∈ I.filter (· != i), sameOne P z ops q T H H') ∧ dstep P z N ops i ki Ii (Sx.tput T oj.dst r) H' n' K Q) (fun r H' n' hr => hfin r H' n' hr) h
    clear h hfin
    generalize evO T fo = fv at h' ⊢
    exact callK_mono2 (fun _ _ _ h => h) (fun r H n hr => hpan _ _ _ _ _ hr) h'
  · rename_i hne
    split at h
    · rename_i fo args ts ex; exact (hne _ _ _ ex).elim
    · rw [opW_tput hA1] at h
      cases hw : opW P z H n T oj.op with
      | none => rw [hw] at h; exact h.elim
      | some p =>
        obtain ⟨C, r, H', n'⟩ := p
        rw [hw] at h
        exact ⟨h.1, hfin r H' n' h.2⟩
theorem swap_q {i j : Nat} {oi oj : Oper} (hoi : ops[i]? = some oi) (hoj : ops[j]? = some oj) {ki kj : DK} (hki : ki.isW = false) (hkj : kj.isW = false) {I Ii : List Nat}
    (hap : Apart (ops := ops) oi oj)
    {T : Nat → AV} {H : Heap} {n : Nat} {K : (Nat → AV) → Heap → Nat → Prop} {Q : AEx → (Nat → AV) → Heap → Nat → Prop}
    (h : dstep P z N ops i ki Ii T H n (fun T1 H1 n1 => dstep P z N ops j kj I T1 H1 n1 K Q) Q) :
    dstep P z N ops j kj I T H n (fun T2 H2 n2 => dstep P z N ops i ki Ii T2 H2 n2 K Q) Q := by
  rw [dstep_good hoi hki] at h
  obtain ⟨hdi, v, hg, h⟩ := h
  rw [dstep_good hoj hkj] at h ⊢
  obtain ⟨hdj, u, hgj, h⟩ := h
  rw [Good.tput hap.1] at hgj
  refine ⟨hdj, u, hgj, ?_⟩
  rw [dstep_good hoi hki]
  refine ⟨hdi, v, ?_, ?_⟩
  · rw [Good.tput hap.2.1]; exact hg
  · rw [tput_comm _ _ _ (fun d hd e => hap.2.2 d e hd)]; exact h
theorem swap_m {i j : Nat} {oi oj : Oper} (hoi : ops[i]? = some oi) (hoj : ops[j]? = some oj) {inc : List Nat} {I Ii : List Nat}
    (hap : Apart (ops := ops) oi oj) {x : Operand} (hm : oj.op = .move x) (hgd : oj.guard = none) (hdj : dOK N oj.dst)
    (hI : ∀ q ∈ Ii, ∀ o, ops[q]? = some o → ∀ d, oj.dst = some d → d ∉ looks (ops := ops) o ∧ o.dst ≠ some d)
    {T : Nat → AV} {H : Heap} {n : Nat} {K : (Nat → AV) → Heap → Nat → Prop} {Q : AEx → (Nat → AV) → Heap → Nat → Prop} (hpan : ∀ p T T' H n, Q (.pan p) T H n → Q (.pan p) T' H n)
    (h : dstep P z N ops i (.w inc) Ii T H n (fun T1 H1 n1 => dstep P z N ops j .m I T1 H1 n1 K Q) Q) :
    dstep P z N ops j .m I T H n (fun T2 H2 n2 => dstep P z N ops i (.w inc) Ii T2 H2 n2 K Q) Q := by
  rw [dstep_good hoj rfl]
  have hgj : ∀ T H, Good P z ops oj .m T H (putG oj true (strip true (evO T x))) := fun T H => ⟨true, x, by simp [gvO, hgd], hm, rfl⟩
  have hput : ∀ v, putG oj true v = v := fun v => by simp [putG, hgd]
  refine ⟨hdj, _, hgj T H, ?_⟩
  rw [hput]
  unfold dstep at h ⊢
  rw [hoi] at h ⊢
  obtain ⟨hdi, hgi, h⟩ := h
  refine ⟨hdi, hgi, ?_⟩
  have hA1 : ∀ d, oj.dst = some d → d ∉ opTmps oi.op := fun d hd hm => hap.2.1 d hd (List.mem_append_left _ hm)
  have hfin : ∀ r H' n', ((∀ q ∈ Ii, sameOne P z ops q T H H') ∧ dstep P z N ops j .m I (Sx.tput T oi.dst r) H' n' K Q) →
      (∀ q ∈ Ii, sameOne P z ops q (Sx.tput T oj.dst (strip true (evO T x))) H H') ∧ K (Sx.tput (Sx.tput T oj.dst (strip true (evO T x))) oi.dst r) H' n' := fun r H' n' ⟨hs, hK⟩ => by
    refine ⟨fun q hq => (sameOne_tput_iff (hI q hq)).2 (hs q hq), ?_⟩
    rw [dstep_good hoj rfl] at hK
    obtain ⟨_, v, hv, hK⟩ := hK
    obtain ⟨g, x', e1, e2, e3⟩ := hv
    have eg : g = true := by unfold gvO at e1; rw [hgd] at e1; simpa using e1.symm
    rw [hm] at e2
    cases e2
    subst eg
    rw [hput] at e3
    have hx : evO (Sx.tput T oi.dst r) x = evO T x := evO_tput fun d hd e => hap.1 d hd (List.mem_append_left _ (by rw [hm]; exact mem_opTmps (by simp [Op.operands, e])))
    rw [hx] at e3
    subst e3
    rw [tput_comm _ _ _ hap.2.2] at hK
    exact hK
  split
  · rename_i fo args ts ex
    rw [ex] at h hA1
    simp only at h
    have e : ∀ y ∈ (Op.call ⟨.value fo, args, ts⟩).operands, evO (Sx.tput T oj.dst (strip true (evO T x))) y = evO T y := fun y hy => evO_op hA1 hy
    simp only [Op.operands, Call.operands] at e
    have e2 : args.toList.map (evO (Sx.tput T oj.dst (strip true (evO T x)))) = args.toList.map (evO T) := List.map_congr_left fun y hy => e y (by simp at hy; simp [hy])
    rw [e fo (by simp), e2]
    have h' := callK_mono (k' := fun r H' n' => (∀ q ∈ Ii, sameOne P z ops q (Sx.tput T oj.dst (strip true (evO T x))) H H') ∧ K (Sx.tput (Sx.tput T oj.dst (strip true (evO T x))) oi.dst r) H' n') (fun r H' n' hr => hfin r H' n' hr) h
    clear h hfin
    generalize evO T fo = fv at h' ⊢
    exact callK_mono2 (fun _ _ _ h => h) (fun r H n hr => hpan _ _ _ _ _ hr) h'
  · rename_i hne
    split at h
    · rename_i fo args ts ex; exact (hne _ _ _ ex).elim
    · rw [opW_tput hA1]
      cases hw : opW P z H n T oi.op with
      | none => rw [hw] at h; exact h.elim
      | some p =>
        obtain ⟨C, r, H', n'⟩ := p
        rw [hw] at h
        exact ⟨h.1, hfin r H' n' h.2⟩
end
end Go.Sx