/- Own layer 'Sx', part G3: a literal of bytes, converted to its own type: it is read-only from then on. Of every program; no condition. -/
import Derived.Test.YtifnhpmeoogedaaGreatDoorPB
import Derived.Orders
set_option linter.unusedSimpArgs false
set_option linter.unusedVariables false
namespace Go.Sx
open Go
def JO (P : Program) (H : Heap) (n : Nat) (s d : TypeId) (k ver off len : Nat) : Option AObj → Option (Prop × AV × Heap × Nat)
 | some (.arr ver' e els) => some (s = d ∧ X4 P s = true ∧ ver' = ver ∧ off = 0 ∧ len = els.length ∧ 0 < els.length, .sl e els, H.put k none, n)
 | _ => none
def wConv (P : Program) (H : Heap) (n : Nat) (s d : TypeId) : AV → Option (Prop × AV × Heap × Nat)
 | .osl k ver off len => JO P H n s d k ver off len (H k)
 | _ => none
theorem Sim.fringe {c : Ctx} {H : Heap} {n : Nat} {w : World} (h : Sim c H n w) {b : Nat} {a : Array Value} {ty : TypeId} {fr fr' : Nat × Nat} (hb : c.ro b = some a) (hw : w.heap[b]? = some (.cells a ty fr)) :
   Sim c H n { w with heap := w.heap.setIfInBounds b (.cells a ty fr') } := by
 have hlt : b < w.heap.size := by
   rcases Nat.lt_or_ge b w.heap.size with h | h
   ·exact h
   ·rw [Array.getElem?_eq_none h] at hw; simp at hw
 have hself : (w.heap.setIfInBounds b (.cells a ty fr'))[b]? = some (.cells a ty fr') := by simp [hlt]
 have hother : ∀ j, j ≠ b → (w.heap.setIfInBounds b (.cells a ty fr'))[j]? = w.heap[j]? := fun j hj => by
   rw [Array.getElem?_setIfInBounds]; rw [if_neg (Ne.symm hj)]
 exact {
   ro := fun b' a' hb' => by
     by_cases e : b' = b
     ·subst e
      rw [hb] at hb'; cases hb'
      exact ⟨_, _, hself⟩
     ·show ∃ ty fr, (w.heap.setIfInBounds b _)[b']? = _
      rw [hother b' e]; exact h.ro b' a' hb'
   own := fun k o hk => (h.own k o hk).mono (.refl _) (fun b' hb' => by
     have : b' ≠ b := fun e => by subst e; have := h.sep k o b' hk hb'; rw [hb] at this; simp at this
     exact hother b' this)
   sep := h.sep
   inj := h.inj
   fresh := h.fresh
   vers := h.vers }
theorem modify_set {a : Array Obj} {i : Nat} {x : Obj} {f : Obj → Obj} (h : a[i]? = some x) : a.modify i f = a.setIfInBounds i (f x) := by
 apply Array.ext_getElem?
 intro j
 rw [Array.getElem?_modify, Array.getElem?_setIfInBounds]
 by_cases e : i = j
 ·subst e
  have hlt : i < a.size := by
    rcases Nat.lt_or_ge i a.size with h' | h'
    ·exact h'
    ·rw [Array.getElem?_eq_none h'] at h; simp at h
  have : a[i] = x := by rw [Array.getElem?_eq_getElem hlt] at h; simpa using h
  simp [hlt, this]
 ·simp [e]
theorem ot_conv {P : Program} {H : Heap} {n : Nat} {dst : Option Tmp} {s d : TypeId} {x : Operand} {ty : TypeId} {pos : String} {after : Array Edge} {guard : Option (Nat × Bool)} {ε : Operand → AV}
   {C : Prop} {r : AV} {H' : Heap} {n' : Nat} {K : ARes → Heap → Nat → Prop}
   (h : wConv P H n s d (ε x) = some (C, r, H', n')) (hC : C) (Y : K (.val r) H' n') : OpT P ⟨dst, .convert s d x, ty, pos, after, guard⟩ ε H n K :=
 OpT.of_run fun c w ρv hs hr => by
   have hx := hr x (by simp [Op.operands])
   generalize ε x = xa at h hx
   cases xa <;> simp only [wConv] at h <;> try (simp at h; done)
   rename_i k ver off len
   cases hk : H k with
   | none => rw [hk] at h; simp [JO] at h
   | some o =>
     cases o with
     | map es => rw [hk] at h; simp [JO] at h
     | glob e els => rw [hk] at h; simp [JO] at h
     | arr ver' e els =>
       rw [hk] at h
       simp only [JO, Option.some.injEq, Prod.mk.injEq] at h
       obtain ⟨rfl, rfl, rfl, rfl⟩ := h
       obtain ⟨rfl, hby, rfl, rfl, rfl, hpos⟩ := hC
       obtain ⟨el, hu, he⟩ := Vy hby
       obtain ⟨c', hst, hfz, _⟩ := Step.freeze hs k ver' e els hk
       have hrel := hfz 0 els.length (ρv x) (by omega) hx
       have ho := hs.own k _ hk
       simp only [Ya] at ho
       obtain ⟨l, hl, hm⟩ := ho
       have hx' := hx
       simp only [Rel] at hx'
       obtain ⟨l', hl', hmm⟩ := hx'
       rw [hl] at hl'; cases hl'
       cases l with
       | nil => have : els = [] := hm; subst this; simp at hpos
       | blk b cap e' =>
         obtain ⟨he', hz, hc, arr, tty, ds, hb, hsz, hrf, ha⟩ := hm
         obtain ⟨cp, o', h1, h2, h3, ev⟩ := hmm
         have ev : ρv x = .slice (some ⟨b, o', none⟩) els.length cp := by simpa using ev
         have hbo : Zw c k (.arr ver' e els) = some b := by simp [Zw, AObj.ver, hl]
         rw [List.drop_zero, List.take_length] at hrel
         have hro : c'.ro b = some arr := by
           have hrel2 := hrel
           rw [ev] at hrel2
           simp only [Rel] at hrel2
           obtain ⟨a0, cap0, e0, _, _, h4⟩ := hrel2
           rcases h4 with h4 | ⟨bb, off, arr', ds', e1, h5, _, _⟩
           ·subst h4; simp at hpos
           ·simp only [List.cons.injEq, and_true, Value.slice.injEq] at e0
            obtain ⟨e0, _, _⟩ := e0
            rw [← e0] at e1
            simp only [Option.some.injEq, Addr.mk.injEq, and_true] at e1
            obtain ⟨rfl, _⟩ := e1
            obtain ⟨ty2, fr2, hw2⟩ := hst.sim.ro b arr' h5
            rw [hb] at hw2
            simp only [Option.some.injEq, Obj.cells.injEq] at hw2
            rw [h5, hw2.1]
         have hsh : w.shape? b = some (tty, arr.size) := by unfold World.shape?; rw [hb]
         refine ⟨_, ρv x, c', H.put k none, n, { w with heap := w.heap.setIfInBounds b (.cells arr tty (arr.size, arr.size + 1)) }, .inl ?_, ?_, hrel, Y⟩
         ·have hfr : w.freeze ⟨b, arr.size, none⟩ 1 = { w with heap := w.heap.setIfInBounds b (.cells arr tty (arr.size, arr.size + 1)) } := by
            unfold World.freeze
            rw [if_neg (by decide), modify_set hb]
            rfl
          simp [execOp, ev, convert, Zk hu, Zk he, markStringish, hsh, hfr]
         ·exact {
            le := hst.le
            sim := hst.sim.fringe hro hb
            fr := {
              os := rfl
              tape := rfl
              output := rfl
              size := by simp
              keep := fun b' hb' hS => by
                have : b' ≠ b := fun e => hS ⟨k, _, hk, by rw [e]; exact hbo⟩
                show (w.heap.setIfInBounds b _)[b']? = _
                rw [Array.getElem?_setIfInBounds, if_neg (Ne.symm this)] }
            new := hst.new }
inductive OpClass where
 | q
 | w
 | c (fo : Operand) (args : Array Operand)
def WO : Op → OpClass
 | .store _ _ _ | .box _ _ | .alloc _ | .makeMap _ _ | .mapUpdate _ _ _ _ | .buildSlice _ _ _ | .makeSlice _ _ _ => .w
 | .call ⟨.builtin .append, _, _⟩ => .w
 | .call ⟨.value fo, args, _⟩ => .c fo args
 | .convert s d _ => if s = d then .w else .q
 | _ => .q
def wAppL (P : Program) (H : Heap) (n : Nat) (T : Nat → AV) : List Operand → List TypeId → Option (Prop × AV × Heap × Nat)
 | [x, y], [t, t'] => if t = t' then KU P H n t (evO T x) (evO T y) else none
 | _, _ => none
def wBS (P : Program) (z : TypeId → AV) (H : Heap) (n : Nat) (T : Nat → AV) (t : TypeId) (len : Nat) (ps : Array (Nat × Operand)) : AV → Option (Prop × AV × Heap × Nat)
 | .bool true => wBSl P H n t len (ps.toList.map (·.1)) (ps.toList.map fun p => evO T p.2)
 | _ => (opQ P z H true T (.buildSlice t len ps)).map fun r => (r.1, r.2, H, n)
def wCv (P : Program) (z : TypeId → AV) (H : Heap) (n : Nat) (T : Nat → AV) (s d : TypeId) (x : Operand) : AV → Option (Prop × AV × Heap × Nat)
 | .osl k ver off len => wConv P H n s d (.osl k ver off len)
 | _ => (opQ P z H true T (.convert s d x)).map fun r => (r.1, r.2, H, n)
def opW (P : Program) (z : TypeId → AV) (H : Heap) (n : Nat) (T : Nat → AV) : Op → Option (Prop × AV × Heap × Nat)
 | .store t x v => wStore P H n t (evO T x) (evO T v)
 | .box _ x => wBox H n (evO T x)
 | .alloc t => wAlloc P z H n t
 | .call ⟨.builtin .append, args, ts⟩ => wAppL P H n T args.toList ts.toList
 | .makeMap t r => Uc P H n t (r.map (evO T))
 | .mapUpdate t m k v => wMapUp P H n t (evO T k) (evO T v) (evO T m)
 | .buildSlice t len ps => wBS P z H n T t len ps (z 4294967295)
 | .convert s d x => wCv P z H n T s d x (evO T x)
 | .makeSlice t x y => wMkSl P z H n t (evO T x) (evO T y)
 | _ => none
theorem ot_wBS {P : Program} {z : TypeId → AV} {H : Heap} {n : Nat} {T : Nat → AV} {dst : Option Tmp} {t : TypeId} {len : Nat} {ps : Array (Nat × Operand)} {ty : TypeId} {pos : String} {after : Array Edge} {guard : Option (Nat × Bool)} {zz : AV}
   {C : Prop} {r : AV} {H' : Heap} {n' : Nat} {K : ARes → Heap → Nat → Prop}
   (h : wBS P z H n T t len ps zz = some (C, r, H', n')) (hC : C) (Y : K (.val r) H' n') : OpT P ⟨dst, .buildSlice t len ps, ty, pos, after, guard⟩ (evO T) H n K := by
 unfold wBS at h
 split at h
 ·exact ot_buildSlice h hC Y
 ·cases hq : opQ P z H true T (.buildSlice t len ps) with
  | none => rw [hq] at h; simp at h
  | some p =>
    rw [hq] at h
    simp only [Option.map_some, Option.some.injEq, Prod.mk.injEq] at h
    obtain ⟨rfl, rfl, rfl, rfl⟩ := h
    exact MQ (Ug hq rfl hC) Y
theorem ot_wCv {P : Program} {z : TypeId → AV} {H : Heap} {n : Nat} {T : Nat → AV} {dst : Option Tmp} {s d : TypeId} {x : Operand} {ty : TypeId} {pos : String} {after : Array Edge} {guard : Option (Nat × Bool)}
   {C : Prop} {r : AV} {H' : Heap} {n' : Nat} {K : ARes → Heap → Nat → Prop}
   (h : wCv P z H n T s d x (evO T x) = some (C, r, H', n')) (hC : C) (Y : K (.val r) H' n') : OpT P ⟨dst, .convert s d x, ty, pos, after, guard⟩ (evO T) H n K := by
 unfold wCv at h
 split at h
 ·rename_i he
  exact ot_conv (ε := evO T) (by rw [he]; exact h) hC Y
 ·cases hq : opQ P z H true T (.convert s d x) with
  | none => rw [hq] at h; simp at h
  | some p =>
    rw [hq] at h
    simp only [Option.map_some, Option.some.injEq, Prod.mk.injEq] at h
    obtain ⟨rfl, rfl, rfl, rfl⟩ := h
    exact MQ (Ug hq rfl hC) Y
theorem J3 {P : Program} {z : TypeId → AV} {H : Heap} {n : Nat} {T : Nat → AV} {dst : Option Tmp} {op : Op} {ty : TypeId} {pos : String} {after : Array Edge} {guard : Option (Nat × Bool)}
   {C : Prop} {r : AV} {H' : Heap} {n' : Nat} {K : ARes → Heap → Nat → Prop}
   (h : opW P z H n T op = some (C, r, H', n')) (hC : C) (Y : K (.val r) H' n') : OpT P ⟨dst, op, ty, pos, after, guard⟩ (evO T) H n K := by
 unfold opW at h
 split at h
 ·exact ot_store h hC Y
 ·exact ot_box h hC Y
 ·exact ot_alloc h hC Y
 ·rename_i args ts
  unfold wAppL at h
  split at h
  ·rename_i x y t t' e1 e2
   split at h
   ·rename_i e
    subst e
    obtain ⟨az⟩ := args
    obtain ⟨tts⟩ := ts
    simp only at e1 e2
    subst e1; subst e2
    exact ot_append h hC Y
   ·simp at h
  ·simp at h
 ·exact ot_makeMap h hC Y
 ·exact ot_mapUp h hC Y
 ·exact ot_wBS h hC Y
 ·exact ot_wCv h hC Y
 ·exact ot_makeSlice h hC Y
 ·simp at h
def dOK (N : Nat) : Option Tmp → Prop
 | none => True
 | some d => d < N
structure callG (P : Program) (g : Bool) (fv : AV) (args : List AV) (H : Heap) (n : Nat) (k : AV → Heap → Nat → Prop) (kp : AV → Heap → Nat → Prop) : Prop where
 yes : g = true → Wz P fv args H n (fun r H' n' => k (.opt true r) H' n') kp
 no : g = false → ∃ r, k (.opt false r) H n
@[congr] theorem callG_congr {P : Program} {g g' : Bool} {fv fv' : AV} {args args' : List AV} {H H' : Heap} {n n' : Nat} {k kp : AV → Heap → Nat → Prop} (h0 : g = g') (h1 : fv = fv') (h2 : args = args') (h3 : H = H') (h4 : n = n') :
 callG P g fv args H n k kp = callG P g' fv' args' H' n' k kp := by rw [h0, h1, h2, h3, h4]
def erun (P : Program) (z : TypeId → AV) (N : Nat) (ops : Array Oper) : List Oper → (Nat → AV) → Heap → Nat → (AEx → (Nat → AV) → Heap → Nat → Prop) → Prop
 | [], T, H, n, Q => Q .normal T H n
 | ⟨dst, op, _, _, _, none⟩ :: os, T, H, n, Q => dOK N dst ∧ match WO op with
   | .q => cont (opQ P z H true T op) fun r => erun P z N ops os (tput T dst r) H n Q
   | .w => Xe (opW P z H n T op) fun r H' n' => erun P z N ops os (tput T dst r) H' n' Q
   | .c fo args => Wz P (evO T fo) (args.toList.map (evO T)) H n (fun r H' n' => erun P z N ops os (tput T dst r) H' n' Q) (fun p H' n' => Q (.pan p) T H' n')
 | ⟨dst, op, _, _, _, some (j, b)⟩ :: os, T, H, n, Q => dOK N dst ∧ Yc ((gtmp ops j).bind fun t => gval (T t) b) fun g => match WO op with
   | .q => Xf g (opQ P z H g T op) fun r => erun P z N ops os (tput T dst r) H n Q
   | .w => (g = true → Xe (opW P z H n T op) fun r H' n' => erun P z N ops os (tput T dst r) H' n' Q) ∧ (g = false → erun P z N ops os (tput T dst (.opt false .junk)) H n Q)
   | .c fo args => callG P g (strip g (evO T fo)) (args.toList.map fun x => strip g (evO T x)) H n (fun r H' n' => erun P z N ops os (tput T dst r) H' n' Q) (fun p H' n' => Q (.pan p) T H' n')
def lrun (P : Program) (N : Nat) (ops : Array Oper) (l : List Oper) (T : Nat → AV) (H : Heap) (n : Nat) (Q : AEx → (Nat → AV) → Heap → Nat → Prop) : Prop :=
 ∀ (c : Ctx) (w : World) (a : Act), Sim c H n w → Z4 c T a.tmps → a.tmps.size = N → ∀ ds, a.defers = ds → wpList P ops (Qp N ds c H w Q) l a w
section
variable {P : Program} {z : TypeId → AV} {N : Nat} {ops : Array Oper} {T : Nat → AV} {H : Heap} {n : Nat} {Q : AEx → (Nat → AV) → Heap → Nat → Prop}
theorem Xn {Q Q' : Exit → Act → World → Prop} (hq : ∀ e a w, Q e a w → Q' e a w) : ∀ (l : List Oper) (a : Act) (w : World), wpList P ops Q l a w → wpList P ops Q' l a w
 | [], _, _, h => hq _ _ _ h
 | o :: l, a, w, h => by
   have ih := Xn hq l
   unfold wpList at h ⊢
   split
   ·rename_i hw
    rw [if_pos hw] at h
    refine h.imp (fun h => ?_) (fun ⟨h1, a', w', h2⟩ => ⟨h1, a', w', hq _ _ _ h2⟩)
    unfold Oper.wp at h ⊢
    generalize (execOp a.eval o).run P w = r at *
    cases r with
    | ok nx w' =>
      cases nx <;> simp only [Oper.upon] at h ⊢ <;> first
        | exact ih _ _ h
        | exact Calls.mono h (fun e w'' he => by cases e <;> first | exact ih _ _ he | exact hq _ _ _ he | (obtain ⟨a', w', h2⟩ := he; exact ⟨a', w', hq _ _ _ h2⟩))
        | exact Rows.mono h (fun _ _ he => ih _ _ he)
        | exact h
    | halt x w' => cases x <;> simp only [Oper.upon] at h ⊢ <;> first | exact hq _ _ _ h | exact h
   ·rename_i hw
    rw [if_neg hw] at h
    exact ih _ _ h
theorem X7 (a : Act) (dst : Option Tmp) (v : Value) : (a.put dst v).tmps.size = a.tmps.size := by cases dst <;> simp [Act.put]
theorem YW (a : Act) (dst : Option Tmp) (v : Value) : (a.put dst v).defers = a.defers := by cases dst <;> rfl
theorem WI {o : Oper} {os : List Oper} {ε : Operand → AV} {k : AV → Heap → Nat → Prop} {kp : AV → Heap → Nat → Prop} (hd : dOK N o.dst)
   (h : OpT P o ε H n (fun res H' n' => match res with | .val r => k r H' n' | .pan p => kp p H' n'))
   {ds : List Deferred} {c : Ctx} {w : World} {a : Act} (hs : Sim c H n w) (hr : Z4 c T a.tmps) (hN : a.tmps.size = N) (hdf : a.defers = ds) (hw : Region.wanted o (yielded ops a.tmps) = true)
   (hε : ∀ x ∈ o.op.operands, Rel c (ε x) false [a.eval x]) (f : AV → AV) (hf : ∀ c' r v, Rel c' r false [v] → Rel c' (f r) false [v])
   (hk : ∀ r H' n', k r H' n' → lrun P N ops os (tput T o.dst (f r)) H' n' Q) (hp : ∀ p H' n', kp p H' n' → Q (.pan p) T H' n') :
   wpList P ops (Qp N ds c H w Q) (o :: os) a w := by
 unfold wpList
 rw [if_pos hw]
 left
 have hd' : ∀ d, o.dst = some d → d < a.tmps.size := fun d hd2 => by rw [hd2] at hd; rw [hN]; exact hd
 refine h c w a hs hε _ _ (fun r v c' H' n' w' Y hst hrel => ?_) (fun p v c' H' n' w' Y hst hrel => ?_)
 ·refine Xn (fun e a w hp => hp.step hst) os _ _ (hk r H' n' Y c' w' _ hst.sim (X0 (Z4.mono hst.le hr) (hf _ _ _ hrel) hd') (by rw [X7, hN]) _ (by rw [YW, hdf]))
 ·exact ⟨.pan p, c', T, H', n', hp p H' n' Y, ⟨v, rfl, hrel⟩, hst, Z4.mono hst.le hr, hN, hdf⟩
theorem Qv {o : Oper} {os : List Oper} (hd : dOK N o.dst)
   {ds : List Deferred} {c : Ctx} {w : World} {a : Act} (hs : Sim c H n w) (hr : Z4 c T a.tmps) (hN : a.tmps.size = N) (hdf : a.defers = ds) (hw : Region.wanted o (yielded ops a.tmps) = false) (r : AV)
   (h : lrun P N ops os (tput T o.dst (.opt false r)) H n Q) : wpList P ops (Qp N ds c H w Q) (o :: os) a w := by
 unfold wpList
 rw [if_neg (by simp [hw])]
 have hd' : ∀ d, o.dst = some d → d < a.tmps.size := fun d hd2 => by rw [hd2] at hd; rw [hN]; exact hd
 exact h c w _ hs (X0 hr (by simp [Rel]) hd') (by rw [X7, hN]) _ (by rw [YW, hdf])
theorem XI {o : Oper} {y : Nat → Option Bool} (h : o.guard = none) : Region.wanted o y = true := by simp [Region.wanted, h]
theorem opt_rel {g : Bool} {c : Ctx} {r : AV} {v : Value} (hg : g = true) (h : Rel c r false [v]) : Rel c (.opt g r) false [v] := by
 simp only [Rel]; exact .inl ⟨hg, h⟩
theorem Yr : ∀ (l : List Oper) (T : Nat → AV) (H : Heap) (n : Nat), erun P z N ops l T H n Q → lrun P N ops l T H n Q
 | [], T, H, n, h => fun c w a hs hr hN ds hd => ⟨.normal, c, T, H, n, h, trivial, .refl hs, hr, hN, hd⟩
 | ⟨dst, op, ty, pos, after, none⟩ :: os, T, H, n, h => fun c w a hs hr hN ds hd => by
   unfold erun at h
   obtain ⟨hdst, h⟩ := h
   have hw : Region.wanted ⟨dst, op, ty, pos, after, none⟩ (yielded ops a.tmps) = true := XI rfl
   have hε : ∀ x ∈ op.operands, Rel c (evO T x) false [a.eval x] := fun x _ => Uy hr x
   split at h
   ·cases hq : opQ P z H true T op with
    | none => rw [hq] at h; exact h.elim
    | some p =>
      obtain ⟨C, r⟩ := p
      rw [hq] at h
      obtain ⟨hC, h⟩ := h
      exact WI (k := fun r' H' n' => r' = r ∧ H' = H ∧ n' = n) (kp := fun _ _ _ => False) hdst (MQ (Ug hq rfl hC) ⟨rfl, rfl, rfl⟩) hs hr hN hd hw hε id (fun _ _ _ h => h)
        (by rintro _ _ _ ⟨rfl, rfl, rfl⟩; exact Yr os _ _ _ h) (fun _ _ _ h => h.elim)
   ·cases hq : opW P z H n T op with
    | none => rw [hq] at h; exact h.elim
    | some p =>
      obtain ⟨C, r, H', n'⟩ := p
      rw [hq] at h
      obtain ⟨hC, h⟩ := h
      exact WI (k := fun r2 H2 n2 => r2 = r ∧ H2 = H' ∧ n2 = n') (kp := fun _ _ _ => False) hdst (J3 hq hC ⟨rfl, rfl, rfl⟩) hs hr hN hd hw hε id (fun _ _ _ h => h)
        (by rintro _ _ _ ⟨rfl, rfl, rfl⟩; exact Yr os _ _ _ h) (fun _ _ _ h => h.elim)
   ·rename_i fo args hcl
    unfold WO at hcl
    split at hcl
    all_goals first
      | (simp at hcl; done)
      | (split at hcl <;> simp at hcl; done)
      | (simp only [OpClass.c.injEq] at hcl
         obtain ⟨rfl, rfl⟩ := hcl
         exact WI hdst (OpT.call h) hs hr hN hd hw hε id (fun _ _ _ h => h) (fun r H' n' hk => Yr os _ _ _ hk) (fun _ _ _ h => h))
 | ⟨dst, op, ty, pos, after, some (j, b)⟩ :: os, T, H, n, h => fun c w a hs hr hN ds hd => by
   unfold erun at h
   obtain ⟨hdst, h⟩ := h
   cases ht : gtmp ops j with
   | none => rw [ht] at h; exact h.elim
   | some t =>
     rw [ht] at h
     simp only [Option.bind_some] at h
     cases hgv : gval (T t) b with
     | none => rw [hgv] at h; exact h.elim
     | some g =>
       rw [hgv] at h
       have hwg : Region.wanted ⟨dst, op, ty, pos, after, some (j, b)⟩ (yielded ops a.tmps) = g := gval_spec hr rfl ht hgv
       simp only [Yc] at h
       have hε : ∀ x ∈ op.operands, Rel c (evO T x) false [a.eval x] := fun x _ => Uy hr x
       split at h
       ·cases hq : opQ P z H g T op with
        | none =>
          rw [hq] at h
          obtain ⟨hg, h⟩ := h
          rw [hg] at hwg h
          exact Qv hdst hs hr hN hd hwg _ (Yr os _ _ _ h)
        | some p =>
          obtain ⟨C, r⟩ := p
          rw [hq] at h
          obtain ⟨hC, h⟩ := h
          cases g with
          | true =>
            exact WI (k := fun r' H' n' => r' = r ∧ H' = H ∧ n' = n) (kp := fun _ _ _ => False) hdst (MQ (Ug hq rfl (hC rfl)) ⟨rfl, rfl, rfl⟩) hs hr hN hd hwg hε (.opt true) (fun _ _ _ h => opt_rel rfl h)
              (by rintro _ _ _ ⟨rfl, rfl, rfl⟩; exact Yr os _ _ _ h) (fun _ _ _ h => h.elim)
          | false => exact Qv hdst hs hr hN hd hwg _ (Yr os _ _ _ h)
       ·cases g with
        | true =>
          have h := h.1 rfl
          cases hq : opW P z H n T op with
          | none => rw [hq] at h; exact h.elim
          | some p =>
            obtain ⟨C, r, H', n'⟩ := p
            rw [hq] at h
            obtain ⟨hC, h⟩ := h
            exact WI (k := fun r2 H2 n2 => r2 = r ∧ H2 = H' ∧ n2 = n') (kp := fun _ _ _ => False) hdst (J3 hq hC ⟨rfl, rfl, rfl⟩) hs hr hN hd hwg hε id (fun _ _ _ h => h)
              (by rintro _ _ _ ⟨rfl, rfl, rfl⟩; exact Yr os _ _ _ h) (fun _ _ _ h => h.elim)
        | false => exact Qv hdst hs hr hN hd hwg _ (Yr os _ _ _ (h.2 rfl))
       ·rename_i fo args hcl
        unfold WO at hcl
        split at hcl
        all_goals first
          | (simp at hcl; done)
          | (split at hcl <;> simp at hcl; done)
          | (simp only [OpClass.c.injEq] at hcl
             obtain ⟨rfl, rfl⟩ := hcl
             cases g with
             | true =>
               exact WI hdst (OpT.call (ε := fun x => strip true (evO T x)) (h.1 rfl)) hs hr hN hd hwg (fun x hx => Qt rfl (hε x hx)) (.opt true) (fun _ _ _ h => opt_rel rfl h) (fun r H' n' hk => Yr os _ _ _ hk) (fun _ _ _ h => h)
             | false =>
               obtain ⟨r, h⟩ := h.2 rfl
               exact Qv hdst hs hr hN hd hwg _ (Yr os _ _ _ h))
theorem Q7 {id : Nat} (z : TypeId → AV) (h : erun P z N ops ops.toList T H n Q) : awp P N (.region id ops false) T H n Q := fun c w a hs hr hN ds hd =>
 wp_region_list (Yr _ _ _ _ h c w a hs hr hN ds hd)
end
def resT (r : AV) : Option (Prop × List AV) → Option (Prop × List AV)
 | some (C, l) => some (C, r :: l)
 | none => none
def resL : Option (Prop × AV) → Option (Prop × List AV) → Option (Prop × List AV)
 | some (C1, r), some (C, l) => some (C1 ∧ C, r :: l)
 | _, _ => none
def resC (P : Program) (H : Heap) (T : Nat → AV) : List ResultVar → Option (Prop × List AV)
 | [] => some (True, [])
 | .tmp t :: rs => resT (T t) (resC P H T rs)
 | .cell a t :: rs => resL (VE P H t (T a)) (resC P H T rs)
def resV : List AV → AV
 | [r] => r
 | rs => .tup rs
def VD (tmps : Array Value) : ResultVar → Sem Value
 | .tmp t => pure (tmps.getD t undef)
 | .cell a t => do loadVar t (← asAddr (tmps.getD a undef))
theorem QU {P : Program} {H : Heap} {T : Nat → AV} {c : Ctx} {n : Nat} {w : World} {tmps : Array Value} (hs : Sim c H n w) (hr : Z4 c T tmps) :
   ∀ (rs : List ResultVar) (C : Prop) (l : List AV), resC P H T rs = some (C, l) → C → ∃ vs, (rs.mapM (VD tmps)).run P w = .ok vs w ∧ RelT c l vs
 | [], C, l, h, _ => by
   simp only [resC, Option.some.injEq, Prod.mk.injEq] at h
   obtain ⟨_, rfl⟩ := h
   exact ⟨[], by simp, by simp [RelT]⟩
 | .tmp t :: rs, C, l, h, hC => by
   simp only [resC] at h
   unfold resT at h
   split at h
   ·rename_i C' l' hh
    simp only [Option.some.injEq, Prod.mk.injEq] at h
    obtain ⟨rfl, rfl⟩ := h
    obtain ⟨vs, hv, hrel⟩ := QU hs hr rs _ _ hh hC
    refine ⟨tmps.getD t undef :: vs, ?_, ?_⟩
    ·simp only [List.mapM_cons, Sem.run_bind, VD, Sem.run_pure, Result.andThen_ok, hv]
    ·simp only [RelT]; exact ⟨_, _, rfl, hr t, hrel⟩
   ·simp at h
 | .cell a t :: rs, C, l, h, hC => by
   simp only [resC] at h
   unfold resL at h
   split at h
   ·rename_i C1 r C' l' hq hh
    simp only [Option.some.injEq, Prod.mk.injEq] at h
    obtain ⟨rfl, rfl⟩ := h
    obtain ⟨vs, hv, hrel⟩ := QU hs hr rs _ _ hh hC.2
    have hl := qs_load (P := P) (ε := fun _ => T a) (H := H) (t := t) (x := .tmp 0) hq hC.1
    obtain ⟨v, c', w', hrun, hst, hrv⟩ := hl none 0 "" #[] none c n w (fun _ => tmps.getD a undef) hs (fun x _ => hr a)
    have hx := hr a
    have key : ∃ ad, tmps.getD a undef = .pointer (some ad) := by
      cases hT : T a <;> rw [hT] at hq hx <;> simp only [VE] at hq <;> try (simp at hq; done)
      ·simp only [Rel, List.cons.injEq, and_true] at hx
       obtain ⟨b, off, _, _, e, _⟩ := hx
       exact ⟨_, e⟩
      ·simp only [Rel, List.cons.injEq, and_true] at hx
       obtain ⟨b, _, _, _, e⟩ := hx
       exact ⟨_, e⟩
    obtain ⟨ad, had⟩ := key
    have hrun2 : (loadVar t ad).run P w = .ok v w ∧ Rel c r false [v] := by
      have hp : QS P (.load t (.tmp 0)) (fun _ => T a) H r := hl
      have hx2 := hr a
      cases hT : T a <;> rw [hT] at hq hx2 <;> simp only [VE] at hq <;> try (simp at hq; done)
      ·rename_i d
       simp only [Option.some.injEq, Prod.mk.injEq] at hq
       obtain ⟨h1, rfl⟩ := hq
       have hC1 := hC.1
       rw [← h1] at hC1
       simp only [Rel, List.cons.injEq, and_true] at hx2
       obtain ⟨b, off, arr, ds, ev, hb, hd, ha⟩ := hx2
       obtain ⟨ty', fr, hw⟩ := hs.ro b arr hb
       obtain ⟨v2, hv2, hrel2⟩ := Ws (P := P) hd hw ha hC1.1 hC1.2
       rw [had] at ev
       cases ev
       have e2 : (execOp (fun _ => tmps.getD a undef) ⟨none, .load t (.tmp 0), 0, "", #[], none⟩).run P w = .ok (.value v2) w := by simp [execOp, had, Instr.loadAt, Instr.sureAddr, hv2]
       rw [e2] at hrun
       cases hrun
       exact ⟨hv2, hrel2⟩
      ·rename_i k ver off i p
       unfold qLoadO at hq
       split at hq
       ·rename_i ver' esz els hk
        simp only [Option.some.injEq, Prod.mk.injEq, nth] at hq
        obtain ⟨h1, rfl⟩ := hq
        have hC1 := hC.1
        rw [← h1] at hC1
        obtain ⟨e1, e2, e3, e4, e5, e6⟩ := hC1
        subst e1
        simp only [Rel, List.cons.injEq, and_true] at hx2
        obtain ⟨b, cap, esz', hl', ev⟩ := hx2
        obtain ⟨he, hc, arr, ty', ds, x, hb, hsz, hr', ha, hx3, hax, _⟩ := (hs.own k _ hk).elem hl' e2
        obtain ⟨a1, y, b1, ey, hly, hy⟩ := Rel.path p _ _ hx3 e4
        subst ey
        obtain ⟨_, ha2⟩ := At.append.1 hax
        obtain ⟨ha3, _⟩ := At.append.1 ha2
        rw [hly, ← e3] at ha3
        obtain ⟨v2, hv2, hrel2⟩ := Ws (P := P) hy hb ha3 e5 e6
        rw [had] at ev
        cases ev
        have e2 : (execOp (fun _ => tmps.getD a undef) ⟨none, .load t (.tmp 0), 0, "", #[], none⟩).run P w = .ok (.value v2) w := by simp [execOp, had, Instr.loadAt, Instr.sureAddr, hv2]
        rw [e2] at hrun
        cases hrun
        exact ⟨hv2, hrel2⟩
       ·simp at hq
    refine ⟨v :: vs, ?_, ?_⟩
    ·simp only [List.mapM_cons, Sem.run_bind, VD, had, asAddr, Sem.run_pure, Result.andThen_ok, hrun2.1, hv]
    ·simp only [RelT]; exact ⟨_, _, rfl, hrun2.2, hrel⟩
   ·simp at h
theorem UU {P : Program} {fn : Func} {H : Heap} {T : Nat → AV} {c : Ctx} {n : Nat} {w : World} {tmps : Array Value} (hs : Sim c H n w) (hr : Z4 c T tmps) {C : Prop} {l : List AV}
   (h : resC P H T fn.results.toList = some (C, l)) (hC : C) : ∃ v, (results fn tmps).run P w = .ok v w ∧ Rel c (resV l) false [v] := by
 obtain ⟨vs, hv, hrel⟩ := QU (P := P) hs hr _ _ _ h hC
 have e : fn.results.mapM (VD tmps) = Functor.map List.toArray (fn.results.toList.mapM (VD tmps)) := by
   rw [Array.mapM_eq_mapM_toList]
 have hm : (fn.results.mapM (VD tmps)).run P w = .ok vs.toArray w := by rw [e]; simp [hv]
 have hres : (results fn tmps).run P w = .ok (if h : vs.toArray.size = 1 then vs.toArray[0] else .tuple vs.toArray) w := by
   have : results fn tmps = (do
       let vs ← fn.results.mapM (VD tmps)
       pure (if h : vs.size = 1 then vs[0] else .tuple vs)) := by
     unfold results
     congr 1
   rw [this, Sem.run_bind, hm]
   rfl
 refine ⟨_, hres, ?_⟩
 match l, vs, hrel with
 | [], _, hrel => simp only [RelT] at hrel; subst hrel; simp [resV, Rel, RelT]
 | [r], _, hrel =>
   simp only [RelT] at hrel
   obtain ⟨v, r', rfl, h1, rfl⟩ := hrel
   simpa [resV] using h1
 | r1 :: r2 :: rs, _, hrel =>
   have hrel' := hrel
   simp only [RelT] at hrel
   obtain ⟨v, _, rfl, _, v2, r', rfl, _, _⟩ := hrel
   simp only [resV, Rel]
   exact ⟨_, by simp, hrel'⟩
def U5 (x : Option (Prop × List AV)) (k : List AV → Prop) : Prop :=
 match x with
 | some (C, r) => C ∧ k r
 | none => False
theorem contL_some (C : Prop) (r : List AV) (k : List AV → Prop) : U5 (some (C, r)) k = (C ∧ k r) := rfl
@[congr] theorem contL_congr {x y : Option (Prop × List AV)} {k : List AV → Prop} (h : x = y) : U5 x k = U5 y k := by rw [h]
def Fin (P : Program) (rs : List ResultVar) (K : ARes → Heap → Nat → Prop) : AEx → (Nat → AV) → Heap → Nat → Prop
 | .normal, T, H, n => U5 (resC P H T rs) fun l => K (.val (resV l)) H n
 | .ret, T, H, n => U5 (resC P H T rs) fun l => K (.val (resV l)) H n
 | .pan p, _, H, n => K (.pan p) H n
 | .exit _, _, _, _ => False
def Kq : List Oper → Nat → Option Tmp
 | [], _ => none
 | o :: _, 0 => o.dst
 | _ :: l, j + 1 => Kq l j
theorem gtmpL_eq (l : List Oper) (j : Nat) : Kq l j = (l[j]?).bind (·.dst) := by
 induction l generalizing j with
 | nil => simp [Kq]
 | cons o l ih => cases j <;> simp [Kq, ih]
def tl : List (Nat × AV) → Nat → AV
 | [], _ => .junk
 | (k, v) :: l, t => if t = k then v else tl l t
theorem tput_tl (l : List (Nat × AV)) (d : Nat) (r : AV) : tput (tl l) (some d) r = tl ((d, r) :: l) := by
 funext t; simp [tput, tl]
theorem tput_none (T : Nat → AV) (r : AV) : tput T none r = T := rfl
def tsel (live : List Nat) (T : Nat → AV) : Nat → AV := tl (live.map fun t => (t, T t))
theorem tsel_eq (live : List Nat) (T : Nat → AV) : tsel live T = tl (live.map fun t => (t, T t)) := rfl
theorem Lb {c : Ctx} {T : Nat → AV} {tmps : Array Value} (live : List Nat) (h : Z4 c T tmps) : Z4 c (tsel live T) tmps := fun t => by
 unfold tsel
 induction live with
 | nil => simp [tl, Rel]
 | cons x l ih =>
   simp only [List.map_cons, tl]
   split
   ·rename_i e; subst e; exact h t
   ·exact ih
def argT (args : List AV) : Nat → AV := fun t => args.getD t .junk
def argL : Nat → List AV → List (Nat × AV)
 | _, [] => []
 | k, a :: l => (k, a) :: argL (k + 1) l
theorem Mt (args : List AV) : tl (argL 0 args) = argT args := by
 have : ∀ k t, tl (argL k args) t = if t < k then .junk else args.getD (t - k) .junk := by
   induction args with
   | nil => intro k t; simp [argL, tl]
   | cons a l ih =>
     intro k t
     simp only [argL, tl, ih]
     split
     ·rename_i e; subst e; simp
     ·rename_i e
      by_cases h : t < k
      ·rw [if_pos h, if_pos (by omega)]
      ·rw [if_neg h, if_neg (by omega), show t - k = (t - (k + 1)) + 1 by omega]
       simp
 funext t
 simpa [argT] using this 0 t
section
variable {P : Program} {z : TypeId → AV} {N : Nat} {ops : Array Oper} {T : Nat → AV} {H : Heap} {n : Nat} {Q : AEx → (Nat → AV) → Heap → Nat → Prop}
theorem YR (live : List Nat) {code : Code} (h : awp P N code (tsel live T) H n Q) : awp P N code T H n Q := fun c w a hs hr hN ds hd => h c w a hs (Lb live hr) hN ds hd
theorem Za {id : Nat} {l : List Oper} {y : Code} (z : TypeId → AV) (live : List Nat)
   (h : ∀ K : (Nat → AV) → Heap → Nat → Prop, (∀ T H n, awp P N y T H n Q → K T H n) → erun P z N l.toArray l T H n (Yw (fun T' H' n' => K (tsel live T') H' n') Q)) :
   awp P N (.seq (.region id l.toArray false) y) T H n Q :=
 JK (Q7 z (by simpa using h (fun T' H' n' => awp P N y T' H' n' Q) (fun _ _ _ h => h)) |>.mono fun e T' H' n' hq => by
   cases e <;> first | exact YR live hq | exact hq)
end
theorem Zc {P : Program} {f : FuncId} {fn : Func} {code : Code} {args : List AV} {H : Heap} {n N : Nat} {rs : List ResultVar} {K : ARes → Heap → Nat → Prop}
   (hf : P.funcs[f]? = some fn) (hb : fn.body = some code) (hN : fn.ntmps = N) (hrs : fn.results.toList = rs) (hlen : args.length ≤ N) (h : awp P N code (tl (argL 0 args)) H n (Fin P rs K)) : Zx P f args H n K := fun c w vs hs hr => by
 rw [Mt] at h
 subst hN
 subst hrs
 have hl : vs.length = args.length := by
   clear h hlen
   induction args generalizing vs with
   | nil => simp only [RelT] at hr; subst hr; rfl
   | cons x xs ih =>
     simp only [RelT] at hr
     obtain ⟨v, r, rfl, _, h2⟩ := hr
     simp [ih r h2]
 refine calls_of_wp hf hb (Go.wp_mono (h c w ⟨vs.toArray ++ Array.replicate (fn.ntmps - vs.toArray.size) undef, []⟩ hs ?_ (by simp; omega) [] rfl) ?_)
 ·intro t
  rcases Nat.lt_or_ge t args.length with ht | ht
  ·obtain ⟨v, hv, hrel⟩ := RelT.nth hr (List.getElem?_eq_getElem ht)
   have e : (vs.toArray ++ Array.replicate (fn.ntmps - vs.toArray.size) undef).getD t undef = v := by
     rw [Array.getD_eq_getD_getElem?, Array.getElem?_append_left (by simpa [hl] using ht)]
     simp [hv]
   rw [e]
   simpa [argT, List.getD, List.getElem?_eq_getElem ht] using hrel
  ·have : argT args t = .junk := by simp [argT, List.getD, List.getElem?_eq_none ht]
   rw [this]
   simp [Rel]
 ·rintro e a' w' ⟨ae, c', T', H', n', hQ, hm, hst, hr', _, hd⟩
  have fin : ∀ (x : Option (Prop × List AV)), x = resC P H' T' fn.results.toList → U5 x (fun l => K (.val (resV l)) H' n') →
      ∃ v, (results fn a'.tmps).run P w' = .ok v w' ∧ ∃ res c' H' n', K res H' n' ∧ Step c H w c' H' n' w' ∧
        match Ending.returned v, res with
        | .returned v, .val r => Rel c' r false [v]
        | .panicked ch, .pan p => ∃ v, ch = [{ v, recovered := false }] ∧ Rel c' p false [v]
        | _, _ => False := fun x hx hc => by
    cases x with
    | none => exact hc.elim
    | some p =>
      obtain ⟨C, l⟩ := p
      obtain ⟨hC, Y⟩ := hc
      obtain ⟨v, hv, hrel⟩ := UU hst.sim hr' hx.symm hC
      exact ⟨v, hv, .val _, c', H', n', Y, hst, hrel⟩
  cases ae with
  | normal =>
    cases e <;> simp only [ZX] at hm
    exact ⟨hd, fin _ rfl hQ⟩
  | ret =>
    cases e <;> simp only [ZX] at hm
    exact ⟨hd, fin _ rfl hQ⟩
  | exit i => exact hQ.elim
  | pan p =>
    cases e <;> simp only [ZX] at hm
    exact ⟨hd, .pan p, c', H', n', hQ, hst, hm⟩
theorem erun_q {P : Program} {z : TypeId → AV} {N : Nat} {ops : Array Oper} {T : Nat → AV} {H : Heap} {n : Nat} {Q : AEx → (Nat → AV) → Heap → Nat → Prop} {dst : Option Tmp} {op : Op} {ty : TypeId} {pos : String} {after : Array Edge} {os : List Oper} (h : WO op = .q) :
 erun P z N ops (⟨dst, op, ty, pos, after, none⟩ :: os) T H n Q = (dOK N dst ∧ cont (opQ P z H true T op) fun r => erun P z N ops os (tput T dst r) H n Q) := by rw [erun.eq_2, h]
theorem erun_w {P : Program} {z : TypeId → AV} {N : Nat} {ops : Array Oper} {T : Nat → AV} {H : Heap} {n : Nat} {Q : AEx → (Nat → AV) → Heap → Nat → Prop} {dst : Option Tmp} {op : Op} {ty : TypeId} {pos : String} {after : Array Edge} {os : List Oper} (h : WO op = .w) :
 erun P z N ops (⟨dst, op, ty, pos, after, none⟩ :: os) T H n Q = (dOK N dst ∧ Xe (opW P z H n T op) fun r H' n' => erun P z N ops os (tput T dst r) H' n' Q) := by rw [erun.eq_2, h]
theorem erun_c {P : Program} {z : TypeId → AV} {N : Nat} {ops : Array Oper} {T : Nat → AV} {H : Heap} {n : Nat} {Q : AEx → (Nat → AV) → Heap → Nat → Prop} {dst : Option Tmp} {fo : Operand} {args : List Operand} {ts : Array TypeId} {ty : TypeId} {pos : String} {after : Array Edge} {os : List Oper} :
 erun P z N ops (⟨dst, .call ⟨.value fo, args.toArray, ts⟩, ty, pos, after, none⟩ :: os) T H n Q = (dOK N dst ∧ Wz P (evO T fo) (args.map (evO T)) H n (fun r H' n' => erun P z N ops os (tput T dst r) H' n' Q) (fun p H' n' => Q (.pan p) T H' n')) := by rw [erun.eq_2]; rfl
theorem erun_gq {P : Program} {z : TypeId → AV} {N : Nat} {ops : Array Oper} {T : Nat → AV} {H : Heap} {n : Nat} {Q : AEx → (Nat → AV) → Heap → Nat → Prop} {dst : Option Tmp} {op : Op} {ty : TypeId} {pos : String} {after : Array Edge} {os : List Oper} {j : Nat} {b : Bool} (h : WO op = .q) :
 erun P z N ops (⟨dst, op, ty, pos, after, some (j, b)⟩ :: os) T H n Q = (dOK N dst ∧ Yc ((gtmp ops j).bind fun t => gval (T t) b) fun g => Xf g (opQ P z H g T op) fun r => erun P z N ops os (tput T dst r) H n Q) := by rw [erun.eq_3, h]
theorem erun_gc {P : Program} {z : TypeId → AV} {N : Nat} {ops : Array Oper} {T : Nat → AV} {H : Heap} {n : Nat} {Q : AEx → (Nat → AV) → Heap → Nat → Prop} {dst : Option Tmp} {fo : Operand} {args : List Operand} {ts : Array TypeId} {ty : TypeId} {pos : String} {after : Array Edge} {os : List Oper} {j : Nat} {b : Bool} :
 erun P z N ops (⟨dst, .call ⟨.value fo, args.toArray, ts⟩, ty, pos, after, some (j, b)⟩ :: os) T H n Q = (dOK N dst ∧ Yc ((gtmp ops j).bind fun t => gval (T t) b) fun g =>
   callG P g (strip g (evO T fo)) (args.map fun x => strip g (evO T x)) H n (fun r H' n' => erun P z N ops os (tput T dst r) H' n' Q) (fun p H' n' => Q (.pan p) T H' n')) := by rw [erun.eq_3]; rfl
theorem opQ_len {P : Program} {z : TypeId → AV} {H : Heap} {g : Bool} {T : Nat → AV} {b : Builtin} {args : List Operand} {ts : List TypeId} : opQ P z H g T (.call ⟨.builtin b, args.toArray, ts.toArray⟩) = LF P b ts (args.map fun x => strip g (evO T x)) := by simp [opQ]
theorem gtmp_eq (l : List Oper) (j : Nat) : gtmp l.toArray j = Kq l j := by
 rw [gtmpL_eq]; unfold gtmp; simp
theorem callK_fn (P : Program) (f : FuncId) (first captured : List AV) (args : List AV) (H : Heap) (n : Nat) (k kp : AV → Heap → Nat → Prop) :
 Wz P (.fn (.func f) first captured) args H n k kp = (((∃ fn : Func, P.funcs[f]? = some fn ∧ fn.body.isSome ∧ (fn.name == "runtime.NumGoroutine") = false) ∧ Zx P f (first ++ args ++ captured) H n fun res H' n' => match res with
   | .val r => k r H' n'
   | .pan p => kp p H' n') ∨ ExtC P f (first ++ args ++ captured) H n k) := rfl
theorem Zg {P : Program} {f : FuncId} {fn : Func} {first captured args args' : List AV} {H : Heap} {n : Nat} {k kp : AV → Heap → Nat → Prop} {r : AV} {H' : Heap} {n' : Nat}
   (hf : P.funcs[f]? = some fn) (hb : fn.body.isSome = true) (hn : (fn.name == "runtime.NumGoroutine") = false) (ha : first ++ args ++ captured = args') (h : Ret P f args' H n r H' n') (hk : k r H' n') : Wz P (.fn (.func f) first captured) args H n k kp := by
 rw [callK_fn]
 exact .inl ⟨⟨fn, hf, hb, hn⟩, by rw [ha]; exact h.use hk⟩
theorem Zv {P : Program} {g : Bool} {f : FuncId} {fn : Func} {first captured args args' : List AV} {H : Heap} {n : Nat} {k kp : AV → Heap → Nat → Prop} {r : AV}
   (hf : P.funcs[f]? = some fn) (hb : fn.body.isSome = true) (hn : (fn.name == "runtime.NumGoroutine") = false) (ha : first ++ args ++ captured = args') (h : g = true → Ret P f args' H n r H n) (hk : k (.opt g r) H n) : callG P g (.fn (.func f) first captured) args H n k kp := by
 refine ⟨fun hg => ?_, fun hg => ⟨r, hg ▸ hk⟩⟩
 subst hg
 exact Zg hf hb hn ha (h rfl) hk
inductive DK where
 | m
 | q
 | c
 | w (inc : List Nat)
 | a (key : Nat) (inc : List Nat)
section
variable (P : Program) (z : TypeId → AV) (N : Nat) (ops : Array Oper)
def gvO (T : Nat → AV) (o : Oper) : Option Bool :=
 match o.guard with
 | none => some true
 | some (j, b) => (gtmp ops j).bind fun t => gval (T t) b
def putG (o : Oper) (g : Bool) (r : AV) : AV :=
 match o.guard with
 | none => r
 | some _ => .opt g r
def KD (fv : AV) (args : List AV) (H : Heap) (r : AV) : Prop := ∀ n, Wz P fv args H n (fun r' H' n' => r' = r ∧ H' = H ∧ n' = n) (fun _ _ _ => False)
def Yz (q : Nat) (T : Nat → AV) (H H' : Heap) : Prop :=
 match ops[q]? with
 | none => True
 | some o =>
   match o.op, o.guard with
   | .call ⟨.value fo, args, _⟩, none => ∀ d, o.dst = some d → KD P (strip true (evO T fo)) (args.toList.map fun x => strip true (evO T x)) H' (T d)
   | .call ⟨.value _, _, _⟩, some _ => False
   | op, _ => ∀ g, gvO ops T o = some g → opQ P z H' g T op = opQ P z H g T op
def newMk (P : Program) (z : TypeId → AV) (key : Nat) : Option TypeId → Option (Nat × Nat) → AV → AV → Option (Prop × AV × AObj)
 | some e, some (s, b), .int _ l, .int _ c => some (0 ≤ l ∧ l ≤ c ∧ b * c ≤ 281474976710656 ∧ c ≤ 9223372036854775807 ∧ s = (z e).sz ∧ Z5 P e (z e), .osl key 1 0 l.toNat, .arr 1 s (List.replicate c.toNat (z e)))
 | _, _, _, _ => none
def Jl (P : Program) (z : TypeId → AV) (key : Nat) (T : Nat → AV) : Op → Option (Prop × AV × AObj)
 | .alloc t => some (Z5 P t (z t), .loc key 1 0 0 [], .arr 1 (z t).sz [z t])
 | .makeSlice t x y => newMk P z key (tElT P t) (tEl P t) (evO T x) (evO T y)
 | _ => none
def opAO (H : Heap) (key n : Nat) : Option AObj → Option (Prop × AV × AObj) → Option (Prop × AV × Heap × Nat)
 | some (.arr 0 _ []), some (C, r, o) => some (C, r, H.put key (some o), n)
 | _, _ => none
def opA (P : Program) (z : TypeId → AV) (H : Heap) (key n : Nat) (T : Nat → AV) (op : Op) : Option (Prop × AV × Heap × Nat) := opAO H key n (H key) (Jl P z key T op)
def Qo (H H2 : Heap) : Prop := ∀ k, (∃ e, H k = some (.arr 0 e [])) ∨ H2 k = H k
def sameA (q : Nat) (T : Nat → AV) (H : Heap) : Prop := ∀ H2, Qo H H2 → Yz P z ops q T H H2
def Yg (i : Nat) (k : DK) (I : List Nat) (T : Nat → AV) (H : Heap) (n : Nat) (K : (Nat → AV) → Heap → Nat → Prop) (Q : AEx → (Nat → AV) → Heap → Nat → Prop) : Prop :=
 match ops[i]? with
 | none => False
 | some o => dOK N o.dst ∧ match k with
   | .m => Yc (gvO ops T o) fun g => match o.op with
     | .move x => K (tput T o.dst (putG o g (strip g (evO T x)))) H n
     | _ => False
   | .q => Yc (gvO ops T o) fun g => match opQ P z H g T o.op with
     | some (C, r) => (g = true → C) ∧ K (tput T o.dst (putG o g r)) H n
     | none => g = false ∧ K (tput T o.dst (putG o g .junk)) H n
   | .c => match o.op with
     | .call ⟨.value fo, args, _⟩ => Yc (gvO ops T o) fun g => ∃ r, (g = true → KD P (strip g (evO T fo)) (args.toList.map fun x => strip g (evO T x)) H r) ∧ K (tput T o.dst (putG o g r)) H n
     | _ => False
   | .w _ => o.guard = none ∧ match o.op with
     | .call ⟨.value fo, args, _⟩ => Wz P (evO T fo) (args.toList.map (evO T)) H n (fun r H' n' => (∀ q ∈ I, Yz P z ops q T H H') ∧ K (tput T o.dst r) H' n') (fun p H' n' => Q (.pan p) T H' n')
     | op => Xe (opW P z H n T op) fun r H' n' => (∀ q ∈ I, Yz P z ops q T H H') ∧ K (tput T o.dst r) H' n'
   | .a key _ => o.guard = none ∧ Xe (opA P z H key n T o.op) fun r H' n' => (∀ q ∈ I, sameA P z ops q T H) ∧ K (tput T o.dst r) H' n'
def DK.inc : DK → List Nat
 | .w I => I
 | .a _ I => I
 | _ => []
def drun : List (Nat × DK × List Nat) → (Nat → AV) → Heap → Nat → (AEx → (Nat → AV) → Heap → Nat → Prop) → Prop
 | [], T, H, n, Q => Q .normal T H n
 | (i, k, I) :: l, T, H, n, Q => Yg P z N ops i k I T H n (fun T H n => drun l T H n Q) Q
variable {P z N ops}
theorem VV {fv : AV} {args : List AV} {H : Heap} {n : Nat} {k k' kp kp' : AV → Heap → Nat → Prop} (hk : ∀ r H n, k r H n → k' r H n) (hp : ∀ r H n, kp r H n → kp' r H n) (h : Wz P fv args H n k kp) : Wz P fv args H n k' kp' := by
 cases fv <;> simp only [Wz] at h
 rename_i f first captured
 cases f <;> simp only at h
 rcases h with h | h
 ·exact .inl ⟨h.1, h.2.mono fun r H n hr => by cases r <;> first | exact hk _ _ _ hr | exact hp _ _ _ hr⟩
 ·exact .inr fun c w vs hs hr => let ⟨r, v, c', H', n', w', h1, h2, h3, h4⟩ := h c w vs hs hr; ⟨r, v, c', H', n', w', h1, h2, h3, hk _ _ _ h4⟩
theorem UA {fv : AV} {args : List AV} {H : Heap} {n : Nat} {k k' kp : AV → Heap → Nat → Prop} (hk : ∀ r H n, k r H n → k' r H n) (h : Wz P fv args H n k kp) : Wz P fv args H n k' kp := VV hk (fun _ _ _ h => h) h
theorem U3 {i : Nat} {k : DK} {I : List Nat} {T : Nat → AV} {H : Heap} {n : Nat} {K K' : (Nat → AV) → Heap → Nat → Prop} {Q Q' : AEx → (Nat → AV) → Heap → Nat → Prop}
   (hk : ∀ T H n, K T H n → K' T H n) (hq : ∀ p T H n, Q (.pan p) T H n → Q' (.pan p) T H n) (h : Yg P z N ops i k I T H n K Q) : Yg P z N ops i k I T H n K' Q' := by
 unfold Yg at h ⊢
 split
 ·rename_i e; rw [e] at h; exact h
 ·rename_i o e
  rw [e] at h
  obtain ⟨hd, h⟩ := h
  refine ⟨hd, ?_⟩
  cases k with
  | m =>
    simp only at h ⊢
    cases hg : gvO ops T o with
    | none => rw [hg] at h; exact h.elim
    | some g =>
      rw [hg] at h
      simp only [Yc] at h ⊢
      split
      ·rename_i x ex; rw [ex] at h; exact hk _ _ _ h
      ·rename_i hne; split at h
       ·rename_i x ex; exact (hne x ex).elim
       ·exact h.elim
  | q =>
    simp only at h ⊢
    cases hg : gvO ops T o with
    | none => rw [hg] at h; exact h.elim
    | some g =>
      rw [hg] at h
      simp only [Yc] at h ⊢
      cases hq : opQ P z H g T o.op with
      | none => rw [hq] at h; exact ⟨h.1, hk _ _ _ h.2⟩
      | some p => rw [hq] at h; exact ⟨h.1, hk _ _ _ h.2⟩
  | c =>
    simp only at h ⊢
    split
    ·rename_i fo args ts ex
     rw [ex] at h
     cases hg : gvO ops T o with
     | none => rw [hg] at h; exact h.elim
     | some g =>
       rw [hg] at h
       obtain ⟨r, h1, h2⟩ := h
       exact ⟨r, h1, hk _ _ _ h2⟩
    ·rename_i hne; split at h
     ·rename_i fo args ts ex; exact (hne _ _ _ ex).elim
     ·exact h.elim
  | w inc =>
    simp only at h ⊢
    refine ⟨h.1, ?_⟩
    have h := h.2
    split
    ·rename_i fo args ts ex
     rw [ex] at h
     exact VV (fun r H n hr => ⟨hr.1, hk _ _ _ hr.2⟩) (fun p H n hp => hq _ _ _ _ hp) h
    ·rename_i hne
     split at h
     ·rename_i fo args ts ex; exact (hne _ _ _ ex).elim
     ·cases hw : opW P z H n T o.op with
      | none => rw [hw] at h; exact h.elim
      | some p => rw [hw] at h; exact ⟨h.1, h.2.1, hk _ _ _ h.2.2⟩
  | a key inc =>
    simp only at h ⊢
    refine ⟨h.1, ?_⟩
    have h := h.2
    cases hw : opA P z H key n T o.op with
    | none => rw [hw] at h; exact h.elim
    | some p => rw [hw] at h; exact ⟨h.1, h.2.1, hk _ _ _ h.2.2⟩
theorem dstep_mono {i : Nat} {k : DK} {I : List Nat} {T : Nat → AV} {H : Heap} {n : Nat} {K K' : (Nat → AV) → Heap → Nat → Prop} {Q : AEx → (Nat → AV) → Heap → Nat → Prop}
 (hk : ∀ T H n, K T H n → K' T H n) (h : Yg P z N ops i k I T H n K Q) : Yg P z N ops i k I T H n K' Q := U3 hk (fun _ _ _ _ h => h) h
theorem VI {Q : AEx → (Nat → AV) → Heap → Nat → Prop} {b b' : List (Nat × DK × List Nat)} (hb : ∀ T H n, drun P z N ops b T H n Q → drun P z N ops b' T H n Q) :
   ∀ (a : List (Nat × DK × List Nat)) (T : Nat → AV) (H : Heap) (n : Nat), drun P z N ops (a ++ b) T H n Q → drun P z N ops (a ++ b') T H n Q
 | [], T, H, n, h => hb T H n h
 | (i, k, I) :: a, T, H, n, h => dstep_mono (fun T H n h => VI hb a T H n h) h
theorem L6 {T : Nat → AV} {dst : Option Tmp} {r : AV} {x : Operand} (h : ∀ d, dst = some d → x ≠ .tmp d) : evO (tput T dst r) x = evO T x := by
 cases dst with
 | none => rfl
 | some d =>
   cases x with
   | tmp t =>
     have : t ≠ d := fun e => h d rfl (by rw [e])
     simp [evO, tput, this]
   | _ => rfl
def XA (op : Op) : List Tmp := op.operands.toList.filterMap fun | .tmp t => some t | _ => none
theorem QX {op : Op} {t : Tmp} (h : Operand.tmp t ∈ op.operands) : t ∈ XA op :=
 List.mem_filterMap.2 ⟨.tmp t, by simpa using h, rfl⟩
theorem Ve {T : Nat → AV} {dst : Option Tmp} {r : AV} {op : Op} (h : ∀ d, dst = some d → d ∉ XA op) {x : Operand} (hx : x ∈ op.operands) : evO (tput T dst r) x = evO T x :=
 L6 fun d hd e => h d hd (QX (e ▸ hx))
theorem VF {H : Heap} {g : Bool} {T : Nat → AV} {dst : Option Tmp} {r : AV} {op : Op} (h : ∀ d, dst = some d → d ∉ XA op) : opQ P z H g (tput T dst r) op = opQ P z H g T op := by
 have e : ∀ x ∈ op.operands, evO (tput T dst r) x = evO T x := fun x hx => Ve h hx
 unfold opQ
 split <;> simp only [Op.operands, Call.operands] at e
 all_goals first
   | rfl
   | (rw [e _ (by simp)]; done)
   | (rw [e _ (by simp), e _ (by simp)]; done)
   | (rw [e _ (by simp), e _ (by simp), e _ (by simp)]; done)
   | (congr 1; apply List.map_congr_left; intro x hx; rw [e x (by simpa using hx)]; done)
   | (rename_i t x lo hi mx
      have e1 : ∀ (y : Option Operand), (∀ o, y = some o → o ∈ (Op.slice t x lo hi mx).operands) → (y.map fun o => strip g (evO (tput T dst r) o)) = y.map fun o => strip g (evO T o) := fun y hy => by
        cases y with
        | none => rfl
        | some o => simp only [Option.map_some]; rw [Ve h (hy o rfl)]
      rw [e1 lo (fun o ho => by simp [Op.operands, ho]), e1 hi (fun o ho => by simp [Op.operands, ho]), e1 mx (fun o ho => by simp [Op.operands, ho]), e x (by simp)]; done)
   | (rename_i t ps
      have e1 : (ps.toList.map fun p => (p.1, strip g (evO (tput T dst r) p.2))) = ps.toList.map fun p => (p.1, strip g (evO T p.2)) := List.map_congr_left fun p hp => by
        rw [e p.2 (by simp; exact ⟨p.1, by simpa using hp⟩)]
      rw [e1]; done)
   | (rename_i t len ps
      have e1 : (ps.toList.map fun p => strip g (evO (tput T dst r) p.2)) = ps.toList.map fun p => strip g (evO T p.2) := List.map_congr_left fun p hp => by
        rw [e p.2 (by simp; exact ⟨p.1, by simpa using hp⟩)]
      rw [e1]; done)
   | (rename_i fn a b
      have e1 : (a.toList.map fun x => strip g (evO (tput T dst r) x)) = a.toList.map fun x => strip g (evO T x) := List.map_congr_left fun x hx => by
        rw [e x (by simp at hx; simp [hx])]
      have e2 : (b.toList.map fun x => strip g (evO (tput T dst r) x)) = b.toList.map fun x => strip g (evO T x) := List.map_congr_left fun x hx => by
        rw [e x (by simp at hx; simp [hx])]
      rw [e1, e2]; done)
   | (rename_i x y z; rw [e x (by simp), e y (by simp), e z (by simp)])
   | (rename_i t x i; rw [e x (by simp), e i (by simp)])
   | (rename_i o t x y _; rw [e x (by simp), e y (by simp)])
theorem opW_tput {H : Heap} {n : Nat} {T : Nat → AV} {dst : Option Tmp} {r : AV} {op : Op} (h : ∀ d, dst = some d → d ∉ XA op) : opW P z H n (tput T dst r) op = opW P z H n T op := by
 have e : ∀ x ∈ op.operands, evO (tput T dst r) x = evO T x := fun x hx => Ve h hx
 unfold opW
 split <;> simp only [Op.operands] at e
 ·rename_i t x v; rw [e x (by simp), e v (by simp)]
 ·rename_i t x; rw [e x (by simp)]
 ·rfl
 ·rename_i args ts
  unfold wAppL
  split
  ·rename_i x y t t' e1 e2
   have h1 : evO (tput T dst r) x = evO T x := e x (by simp [Call.operands]; rw [← Array.mem_toList_iff, e1]; simp)
   have h2 : evO (tput T dst r) y = evO T y := e y (by simp [Call.operands]; rw [← Array.mem_toList_iff, e1]; simp)
   rw [h1, h2]
  ·rfl
 ·rename_i t r0
  cases r0 with
  | none => rfl
  | some x => simp only [Option.map_some]; rw [e x (by simp)]
 ·rename_i t m k v; rw [e k (by simp), e v (by simp), e m (by simp)]
 ·rename_i t len ps
  unfold wBS
  rw [VF h]
  have e1 : (ps.toList.map fun p => evO (tput T dst r) p.2) = ps.toList.map fun p => evO T p.2 := List.map_congr_left fun p hp => by
    rw [e p.2 (by simp; exact ⟨p.1, by simpa using hp⟩)]
  rw [e1]
 ·rename_i s d x
  unfold wCv
  rw [VF h, e x (by simp)]
 ·rename_i t x y; rw [e x (by simp), e y (by simp)]
 ·rfl
def LV (o : Oper) : List Tmp :=
 match o.guard with
 | some (j, _) => (gtmp ops j).toList
 | none => []
def looks (o : Oper) : List Tmp := XA o.op ++ LV (ops := ops) o
theorem UZ {T : Nat → AV} {dst : Option Tmp} {r : AV} {o : Oper} (h : ∀ d, dst = some d → d ∉ LV (ops := ops) o) : gvO ops (tput T dst r) o = gvO ops T o := by
 unfold gvO LV at *
 cases hg : o.guard with
 | none => rfl
 | some jb =>
   obtain ⟨j, b⟩ := jb
   rw [hg] at h
   simp only at h ⊢
   cases ht : gtmp ops j with
   | none => rfl
   | some t =>
     rw [ht] at h
     simp only [Option.bind_some]
     cases dst with
     | none => rfl
     | some d =>
       have hne : t ≠ d := fun e => h d rfl (by simp [e])
       simp [tput, hne]
theorem Vs (T : Nat → AV) {x y : Option Tmp} (r s : AV) (h : ∀ d, x = some d → y ≠ some d) : tput (tput T x r) y s = tput (tput T y s) x r := by
 cases x with
 | none => rfl
 | some d =>
   cases y with
   | none => rfl
   | some e =>
     have hne : d ≠ e := fun he => h d rfl (by rw [he])
     funext t
     simp only [tput]
     by_cases h1 : t = d
     ·subst h1; simp [hne]
     ·by_cases h2 : t = e <;> simp [h1, h2, Ne.symm hne]
def Apart (o o' : Oper) : Prop :=
 (∀ d, o.dst = some d → d ∉ looks (ops := ops) o') ∧ (∀ d, o'.dst = some d → d ∉ looks (ops := ops) o) ∧ (∀ d, o.dst = some d → o'.dst ≠ some d)
theorem WE {q : Nat} {T : Nat → AV} {dst : Option Tmp} {r : AV} {H H' : Heap} (h : ∀ o, ops[q]? = some o → ∀ d, dst = some d → d ∉ looks (ops := ops) o ∧ o.dst ≠ some d) :
   Yz P z ops q (tput T dst r) H H' ↔ Yz P z ops q T H H' := by
 unfold Yz
 split
 ·exact Iff.rfl
 ·rename_i o ho
  have hl := h o ho
  have h1 : ∀ d, dst = some d → d ∉ XA o.op := fun d hd hm => (hl d hd).1 (List.mem_append_left _ hm)
  have h2 : ∀ d, dst = some d → d ∉ LV (ops := ops) o := fun d hd hm => (hl d hd).1 (List.mem_append_right _ hm)
  split
  ·rename_i fo args ts hop hgd
   rw [hop] at h1
   have e : ∀ x ∈ (Op.call ⟨.value fo, args, ts⟩).operands, evO (tput T dst r) x = evO T x := fun x hx => Ve h1 hx
   simp only [Op.operands, Call.operands] at e
   have e2 : (args.toList.map fun x => strip true (evO (tput T dst r) x)) = args.toList.map fun x => strip true (evO T x) := List.map_congr_left fun x hx => by rw [e x (by simp at hx; simp [hx])]
   rw [e fo (by simp), e2]
   refine forall_congr' fun d => forall_congr' fun hd => ?_
   have e3 : tput T dst r d = T d := by
     cases dst with
     | none => rfl
     | some d' =>
       have : d ≠ d' := fun he => (hl d' rfl).2 (by rw [← he]; exact hd)
       simp [tput, this]
   rw [e3]
  ·exact Iff.rfl
  ·rw [UZ h2]
   refine forall_congr' fun g => forall_congr' fun _ => ?_
   rw [VF h1, VF h1]
theorem sameOne_tput {q : Nat} {T : Nat → AV} {dst : Option Tmp} {r : AV} {H H' : Heap} (h : ∀ o, ops[q]? = some o → ∀ d, dst = some d → d ∉ looks (ops := ops) o ∧ o.dst ≠ some d) :
 Yz P z ops q (tput T dst r) H H' → Yz P z ops q T H H' := (WE h).1
def Good (P : Program) (z : TypeId → AV) (ops : Array Oper) (o : Oper) (k : DK) (T : Nat → AV) (H : Heap) (v : AV) : Prop :=
 match k with
 | .m => ∃ g x, gvO ops T o = some g ∧ o.op = .move x ∧ v = putG o g (strip g (evO T x))
 | .q => ∃ g, gvO ops T o = some g ∧ ((∃ C r, opQ P z H g T o.op = some (C, r) ∧ (g = true → C) ∧ v = putG o g r) ∨ (opQ P z H g T o.op = none ∧ g = false ∧ v = putG o g .junk))
 | .c => ∃ g fo args ts r, gvO ops T o = some g ∧ o.op = .call ⟨.value fo, args, ts⟩ ∧ (g = true → KD P (strip g (evO T fo)) (args.toList.map fun x => strip g (evO T x)) H r) ∧ v = putG o g r
 | .w _ => False
 | .a _ _ => False
def DK.isW : DK → Bool
 | .w _ => true
 | .a _ _ => true
 | _ => false
theorem Y2 {i : Nat} {k : DK} {I : List Nat} {T : Nat → AV} {H : Heap} {n : Nat} {K : (Nat → AV) → Heap → Nat → Prop} {Q : AEx → (Nat → AV) → Heap → Nat → Prop} {o : Oper} (ho : ops[i]? = some o) (hk : k.isW = false) :
   Yg P z N ops i k I T H n K Q ↔ dOK N o.dst ∧ ∃ v, Good P z ops o k T H v ∧ K (tput T o.dst v) H n := by
 unfold Yg
 rw [ho]
 simp only
 refine and_congr_right fun _ => ?_
 cases k with
 | w inc => simp [DK.isW] at hk
 | a key inc => simp [DK.isW] at hk
 | m =>
   simp only [Good]
   cases hg : gvO ops T o with
   | none => simp [Yc]
   | some g =>
     simp only [Yc]
     constructor
     ·intro h
      split at h
      ·rename_i x ex; exact ⟨_, ⟨g, x, rfl, ex, rfl⟩, h⟩
      ·exact h.elim
     ·rintro ⟨v, ⟨g', x, e1, e2, e3⟩, h⟩
      cases e1
      rw [e2]
      subst e3
      exact h
 | q =>
   simp only [Good]
   cases hg : gvO ops T o with
   | none => simp [Yc]
   | some g =>
     simp only [Yc]
     cases hq : opQ P z H g T o.op with
     | none =>
       constructor
       ·rintro ⟨h1, h2⟩; exact ⟨_, ⟨g, rfl, .inr ⟨hq, h1, rfl⟩⟩, h2⟩
       ·rintro ⟨v, ⟨g', e1, e2⟩, h⟩
        cases e1
        rcases e2 with ⟨C, r, e2, _⟩ | ⟨_, e3, e4⟩
        ·rw [hq] at e2; simp at e2
        ·subst e4; exact ⟨e3, h⟩
     | some p =>
       obtain ⟨C, r⟩ := p
       constructor
       ·rintro ⟨h1, h2⟩; exact ⟨_, ⟨g, rfl, .inl ⟨C, r, hq, h1, rfl⟩⟩, h2⟩
       ·rintro ⟨v, ⟨g', e1, e2⟩, h⟩
        cases e1
        rcases e2 with ⟨C', r', e2, e3, e4⟩ | ⟨e2, _⟩
        ·rw [hq] at e2; cases e2; subst e4; exact ⟨e3, h⟩
        ·rw [hq] at e2; simp at e2
 | c =>
   simp only [Good]
   constructor
   ·intro h
    split at h
    ·rename_i fo args ts ex
     cases hg : gvO ops T o with
     | none => rw [hg] at h; exact h.elim
     | some g =>
       rw [hg] at h
       obtain ⟨r, h1, h2⟩ := h
       exact ⟨_, ⟨g, fo, args, ts, r, rfl, ex, h1, rfl⟩, h2⟩
    ·exact h.elim
   ·rintro ⟨v, ⟨g, fo, args, ts, r, e1, e2, e3, e4⟩, h⟩
    rw [e2]
    simp only [e1, Yc]
    subst e4
    exact ⟨r, e3, h⟩
theorem Good.tput {o : Oper} {k : DK} {T : Nat → AV} {H : Heap} {v : AV} {dst : Option Tmp} {r : AV} (h : ∀ d, dst = some d → d ∉ looks (ops := ops) o) :
   Good P z ops o k (tput T dst r) H v ↔ Good P z ops o k T H v := by
 have h1 : ∀ d, dst = some d → d ∉ XA o.op := fun d hd hm => h d hd (List.mem_append_left _ hm)
 have h2 : ∀ d, dst = some d → d ∉ LV (ops := ops) o := fun d hd hm => h d hd (List.mem_append_right _ hm)
 cases k with
 | w _ => exact Iff.rfl
 | a _ _ => exact Iff.rfl
 | m =>
   simp only [Good, UZ h2]
   constructor
   ·rintro ⟨g, x, e1, e2, e3⟩
    rw [Ve h1 (by rw [e2]; simp [Op.operands])] at e3
    exact ⟨g, x, e1, e2, e3⟩
   ·rintro ⟨g, x, e1, e2, e3⟩
    refine ⟨g, x, e1, e2, ?_⟩
    rw [Ve h1 (by rw [e2]; simp [Op.operands])]
    exact e3
 | q => simp only [Good, UZ h2, VF h1]
 | c =>
   have key : ∀ fo args ts, o.op = .call ⟨.value fo, args, ts⟩ → evO (Sx.tput T dst r) fo = evO T fo ∧ ∀ g, (args.toList.map fun x => strip g (evO (Sx.tput T dst r) x)) = args.toList.map fun x => strip g (evO T x) := fun fo args ts e => by
     refine ⟨Ve h1 (by rw [e]; simp [Op.operands, Call.operands]), fun g => List.map_congr_left fun x hx => ?_⟩
     rw [Ve h1 (by rw [e]; simp at hx; simp [Op.operands, Call.operands, hx])]
   simp only [Good, UZ h2]
   constructor
   ·rintro ⟨g, fo, args, ts, r', e1, e2, e3, e4⟩
    obtain ⟨k1, k2⟩ := key fo args ts e2
    rw [k1, k2 g] at e3
    exact ⟨g, fo, args, ts, r', e1, e2, e3, e4⟩
   ·rintro ⟨g, fo, args, ts, r', e1, e2, e3, e4⟩
    obtain ⟨k1, k2⟩ := key fo args ts e2
    refine ⟨g, fo, args, ts, r', e1, e2, ?_, e4⟩
    rw [k1, k2 g]; exact e3
theorem Good.heap {q : Nat} {o : Oper} (ho : ops[q]? = some o) {k : DK} {T : Nat → AV} {H H' : Heap} {v : AV} (hg : Good P z ops o k T H v) (hd : ∀ d, o.dst = some d → d ∉ looks (ops := ops) o)
   (hdst : k.isW = false → (∃ d, o.dst = some d) ∨ ∀ fo args ts, o.op ≠ .call ⟨.value fo, args, ts⟩)
   (hs : k = .m ∨ Yz P z ops q (Sx.tput T o.dst v) H H') : Good P z ops o k T H' v := by
 cases k with
 | m => exact hg
 | w _ => exact hg
 | a _ _ => exact hg
 | q =>
   have hs := hs.resolve_left (by simp)
   obtain ⟨g, e1, e2⟩ := hg
   have h1 : ∀ d, o.dst = some d → d ∉ XA o.op := fun d hd' hm => hd d hd' (List.mem_append_left _ hm)
   have h2 : ∀ d, o.dst = some d → d ∉ LV (ops := ops) o := fun d hd' hm => hd d hd' (List.mem_append_right _ hm)
   unfold Yz at hs
   rw [ho] at hs
   simp only at hs
   have hqc : ∀ fo args ts, o.op ≠ .call ⟨.value fo, args, ts⟩ ∨ opQ P z H g T o.op = none := fun fo args ts => by
     by_cases e : o.op = .call ⟨.value fo, args, ts⟩
     ·right; rw [e]; rfl
     ·exact .inl e
   have fin : opQ P z H' g T o.op = opQ P z H g T o.op := by
     split at hs
     ·rename_i fo args ts hop hgd
      rw [hop]; rfl
     ·exact hs.elim
     ·have := hs g (by rw [UZ h2]; exact e1)
      rwa [VF h1, VF h1] at this
   exact ⟨g, e1, by rw [fin]; exact e2⟩
 | c =>
   have hs := hs.resolve_left (by simp)
   obtain ⟨g, fo, args, ts, r, e1, e2, e3, e4⟩ := hg
   unfold Yz at hs
   rw [ho] at hs
   simp only at hs
   rw [e2] at hs
   cases hgd : o.guard with
   | some jb => rw [hgd] at hs; exact hs.elim
   | none =>
     rw [hgd] at hs
     have eg : g = true := by unfold gvO at e1; rw [hgd] at e1; simpa using e1.symm
     have ev : v = r := by rw [e4]; simp [putG, hgd]
     subst ev
     obtain ⟨d, hdd⟩ := (hdst rfl).resolve_right (fun h => h _ _ _ e2)
     have h1 : ∀ d, o.dst = some d → d ∉ XA o.op := fun d hd' hm => hd d hd' (List.mem_append_left _ hm)
     have := hs d hdd
     have k1 : ∀ x ∈ (Op.call ⟨.value fo, args, ts⟩).operands, evO (Sx.tput T o.dst v) x = evO T x := fun x hx => Ve h1 (by rw [e2]; exact hx)
     simp only [Op.operands, Call.operands] at k1
     have k2 : (args.toList.map fun x => strip true (evO (Sx.tput T o.dst v) x)) = args.toList.map fun x => strip true (evO T x) := List.map_congr_left fun x hx => by rw [k1 x (by simp at hx; simp [hx])]
     rw [k1 fo (by simp), k2] at this
     have k3 : Sx.tput T o.dst v d = v := by rw [hdd]; simp [Sx.tput]
     rw [k3] at this
     exact ⟨g, fo, args, ts, v, e1, e2, fun _ => by rw [eg]; exact this, e4⟩
theorem swap_w {i j : Nat} {oi oj : Oper} (hoi : ops[i]? = some oi) (hoj : ops[j]? = some oj) {ki : DK} {inc : List Nat} (hki : ki.isW = false) {I Ii : List Nat}
   (hap : Apart (ops := ops) oi oj) (hself : ∀ d, oi.dst = some d → d ∉ looks (ops := ops) oi) (hdst : ki = .m ∨ ((∃ d, oi.dst = some d) ∨ ∀ fo args ts, oi.op ≠ .call ⟨.value fo, args, ts⟩)) (hin : ki = .m ∨ i ∈ I)
   (hI : ∀ q ∈ I, q ≠ i → ∀ o, ops[q]? = some o → ∀ d, oi.dst = some d → d ∉ looks (ops := ops) o ∧ o.dst ≠ some d)
   {T : Nat → AV} {H : Heap} {n : Nat} {K : (Nat → AV) → Heap → Nat → Prop} {Q : AEx → (Nat → AV) → Heap → Nat → Prop} (hpan : ∀ p T T' H n, Q (.pan p) T H n → Q (.pan p) T' H n)
   (h : Yg P z N ops i ki Ii T H n (fun T1 H1 n1 => Yg P z N ops j (.w inc) I T1 H1 n1 K Q) Q) :
   Yg P z N ops j (.w inc) (I.filter (· != i)) T H n (fun T2 H2 n2 => Yg P z N ops i ki Ii T2 H2 n2 K Q) Q := by
 rw [Y2 hoi hki] at h
 obtain ⟨hdi, v, hg, h⟩ := h
 unfold Yg at h ⊢
 rw [hoj] at h ⊢
 obtain ⟨hdj, hgd, h⟩ := h
 refine ⟨hdj, hgd, ?_⟩
 have hA1 : ∀ d, oi.dst = some d → d ∉ XA oj.op := fun d hd hm => hap.1 d hd (List.mem_append_left _ hm)
 have hfin : ∀ r H' n', ((∀ q ∈ I, Yz P z ops q (Sx.tput T oi.dst v) H H') ∧ K (Sx.tput (Sx.tput T oi.dst v) oj.dst r) H' n') →
     (∀ q ∈ I.filter (· != i), Yz P z ops q T H H') ∧ Yg P z N ops i ki Ii (Sx.tput T oj.dst r) H' n' K Q := fun r H' n' ⟨hs, Y⟩ => by
   refine ⟨fun q hq => ?_, ?_⟩
   ·obtain ⟨hq1, hq2⟩ := List.mem_filter.1 hq
    exact sameOne_tput (hI q hq1 (by simpa using hq2)) (hs q hq1)
   ·rw [Y2 hoi hki]
    refine ⟨hdi, v, ?_, ?_⟩
    ·rw [Good.tput hap.2.1]
     refine Good.heap hoi hg hself (fun _ => ?_) (hin.imp id fun hi => hs i hi)
     rcases hdst with e | e
     ·subst e
      obtain ⟨g, x, _, ex, _⟩ := hg
      exact .inr fun fo args ts e => by rw [ex] at e; simp at e
     ·exact e
    ·rw [Vs _ _ _ (fun d hd e => hap.2.2 d e hd)]; exact Y
 split
 ·rename_i fo args ts ex
  rw [ex] at h hA1
  simp only at h
  have e : ∀ x ∈ (Op.call ⟨.value fo, args, ts⟩).operands, evO (Sx.tput T oi.dst v) x = evO T x := fun x hx => Ve hA1 hx
  simp only [Op.operands, Call.operands] at e
  have e2 : args.toList.map (evO (Sx.tput T oi.dst v)) = args.toList.map (evO T) := List.map_congr_left fun x hx => e x (by simp at hx; simp [hx])
  rw [e fo (by simp), e2] at h
  have h' := UA (k' := fun r H' n' => (∀ q ∈ I.filter (· != i), Yz P z ops q T H H') ∧ Yg P z N ops i ki Ii (Sx.tput T oj.dst r) H' n' K Q) (fun r H' n' hr => hfin r H' n' hr) h
  clear h hfin
  generalize evO T fo = fv at h' ⊢
  exact VV (fun _ _ _ h => h) (fun r H n hr => hpan _ _ _ _ _ hr) h'
 ·rename_i hne
  split at h
  ·rename_i fo args ts ex; exact (hne _ _ _ ex).elim
  ·rw [opW_tput hA1] at h
   cases hw : opW P z H n T oj.op with
   | none => rw [hw] at h; exact h.elim
   | some p =>
     obtain ⟨C, r, H', n'⟩ := p
     rw [hw] at h
     exact ⟨h.1, hfin r H' n' h.2⟩
theorem swap_q {i j : Nat} {oi oj : Oper} (hoi : ops[i]? = some oi) (hoj : ops[j]? = some oj) {ki kj : DK} (hki : ki.isW = false) (hkj : kj.isW = false) {I Ii : List Nat}
   (hap : Apart (ops := ops) oi oj)
   {T : Nat → AV} {H : Heap} {n : Nat} {K : (Nat → AV) → Heap → Nat → Prop} {Q : AEx → (Nat → AV) → Heap → Nat → Prop}
   (h : Yg P z N ops i ki Ii T H n (fun T1 H1 n1 => Yg P z N ops j kj I T1 H1 n1 K Q) Q) :
   Yg P z N ops j kj I T H n (fun T2 H2 n2 => Yg P z N ops i ki Ii T2 H2 n2 K Q) Q := by
 rw [Y2 hoi hki] at h
 obtain ⟨hdi, v, hg, h⟩ := h
 rw [Y2 hoj hkj] at h ⊢
 obtain ⟨hdj, u, hgj, h⟩ := h
 rw [Good.tput hap.1] at hgj
 refine ⟨hdj, u, hgj, ?_⟩
 rw [Y2 hoi hki]
 refine ⟨hdi, v, ?_, ?_⟩
 ·rw [Good.tput hap.2.1]; exact hg
 ·rw [Vs _ _ _ (fun d hd e => hap.2.2 d e hd)]; exact h
theorem swap_m {i j : Nat} {oi oj : Oper} (hoi : ops[i]? = some oi) (hoj : ops[j]? = some oj) {inc : List Nat} {I Ii : List Nat}
   (hap : Apart (ops := ops) oi oj) {x : Operand} (hm : oj.op = .move x) (hgd : oj.guard = none) (hdj : dOK N oj.dst)
   (hI : ∀ q ∈ Ii, ∀ o, ops[q]? = some o → ∀ d, oj.dst = some d → d ∉ looks (ops := ops) o ∧ o.dst ≠ some d)
   {T : Nat → AV} {H : Heap} {n : Nat} {K : (Nat → AV) → Heap → Nat → Prop} {Q : AEx → (Nat → AV) → Heap → Nat → Prop} (hpan : ∀ p T T' H n, Q (.pan p) T H n → Q (.pan p) T' H n)
   (h : Yg P z N ops i (.w inc) Ii T H n (fun T1 H1 n1 => Yg P z N ops j .m I T1 H1 n1 K Q) Q) :
   Yg P z N ops j .m I T H n (fun T2 H2 n2 => Yg P z N ops i (.w inc) Ii T2 H2 n2 K Q) Q := by
 rw [Y2 hoj rfl]
 have hgj : ∀ T H, Good P z ops oj .m T H (putG oj true (strip true (evO T x))) := fun T H => ⟨true, x, by simp [gvO, hgd], hm, rfl⟩
 have hput : ∀ v, putG oj true v = v := fun v => by simp [putG, hgd]
 refine ⟨hdj, _, hgj T H, ?_⟩
 rw [hput]
 unfold Yg at h ⊢
 rw [hoi] at h ⊢
 obtain ⟨hdi, hgi, h⟩ := h
 refine ⟨hdi, hgi, ?_⟩
 have hA1 : ∀ d, oj.dst = some d → d ∉ XA oi.op := fun d hd hm => hap.2.1 d hd (List.mem_append_left _ hm)
 have hfin : ∀ r H' n', ((∀ q ∈ Ii, Yz P z ops q T H H') ∧ Yg P z N ops j .m I (Sx.tput T oi.dst r) H' n' K Q) →
     (∀ q ∈ Ii, Yz P z ops q (Sx.tput T oj.dst (strip true (evO T x))) H H') ∧ K (Sx.tput (Sx.tput T oj.dst (strip true (evO T x))) oi.dst r) H' n' := fun r H' n' ⟨hs, Y⟩ => by
   refine ⟨fun q hq => (WE (hI q hq)).2 (hs q hq), ?_⟩
   rw [Y2 hoj rfl] at Y
   obtain ⟨_, v, hv, Y⟩ := Y
   obtain ⟨g, x', e1, e2, e3⟩ := hv
   have eg : g = true := by unfold gvO at e1; rw [hgd] at e1; simpa using e1.symm
   rw [hm] at e2
   cases e2
   subst eg
   rw [hput] at e3
   have hx : evO (Sx.tput T oi.dst r) x = evO T x := L6 fun d hd e => hap.1 d hd (List.mem_append_left _ (by rw [hm]; exact QX (by simp [Op.operands, e])))
   rw [hx] at e3
   subst e3
   rw [Vs _ _ _ hap.2.2] at Y
   exact Y
 split
 ·rename_i fo args ts ex
  rw [ex] at h hA1
  simp only at h
  have e : ∀ y ∈ (Op.call ⟨.value fo, args, ts⟩).operands, evO (Sx.tput T oj.dst (strip true (evO T x))) y = evO T y := fun y hy => Ve hA1 hy
  simp only [Op.operands, Call.operands] at e
  have e2 : args.toList.map (evO (Sx.tput T oj.dst (strip true (evO T x)))) = args.toList.map (evO T) := List.map_congr_left fun y hy => e y (by simp at hy; simp [hy])
  rw [e fo (by simp), e2]
  have h' := UA (k' := fun r H' n' => (∀ q ∈ Ii, Yz P z ops q (Sx.tput T oj.dst (strip true (evO T x))) H H') ∧ K (Sx.tput (Sx.tput T oj.dst (strip true (evO T x))) oi.dst r) H' n') (fun r H' n' hr => hfin r H' n' hr) h
  clear h hfin
  generalize evO T fo = fv at h' ⊢
  exact VV (fun _ _ _ h => h) (fun r H n hr => hpan _ _ _ _ _ hr) h'
 ·rename_i hne
  split at h
  ·rename_i fo args ts ex; exact (hne _ _ _ ex).elim
  ·rw [opW_tput hA1]
   cases hw : opW P z H n T oi.op with
   | none => rw [hw] at h; exact h.elim
   | some p =>
     obtain ⟨C, r, H', n'⟩ := p
     rw [hw] at h
     exact ⟨h.1, hfin r H' n' h.2⟩
theorem VB {q : Nat} {T : Nat → AV} {dst : Option Tmp} {r : AV} {H : Heap} (h : ∀ o, ops[q]? = some o → ∀ d, dst = some d → d ∉ looks (ops := ops) o ∧ o.dst ≠ some d) :
 sameA P z ops q (tput T dst r) H ↔ sameA P z ops q T H := forall_congr' fun _ => forall_congr' fun _ => WE h
theorem Jn {H : Heap} {key n : Nat} {T : Nat → AV} {op : Op} {C : Prop} {r : AV} {H' : Heap} {n' : Nat} (h : opA P z H key n T op = some (C, r, H', n')) :
   ∃ e o, H key = some (.arr 0 e []) ∧ Jl P z key T op = some (C, r, o) ∧ H' = H.put key (some o) ∧ n' = n := by
 unfold opA opAO at h
 split at h
 ·rename_i e C' r' o h1 h2
  simp only [Option.some.injEq, Prod.mk.injEq] at h
  obtain ⟨rfl, rfl, rfl, rfl⟩ := h
  exact ⟨e, o, h1, h2, rfl, rfl⟩
 ·simp at h
theorem opA_mk {H : Heap} {key n : Nat} {T : Nat → AV} {op : Op} {e : Nat} {C : Prop} {r : AV} {o : AObj} (h : H key = some (.arr 0 e [])) (ho : Jl P z key T op = some (C, r, o)) : opA P z H key n T op = some (C, r, H.put key (some o), n) := by
 simp only [opA, h, ho, opAO]
theorem opNew_ver {key : Nat} {T : Nat → AV} {op : Op} {C : Prop} {r : AV} {o : AObj} (ho : Jl P z key T op = some (C, r, o)) (e : Nat) : o ≠ .arr 0 e [] := by
 unfold Jl at ho
 split at ho
 ·simp only [Option.some.injEq, Prod.mk.injEq] at ho; rw [← ho.2.2]; simp
 ·unfold newMk at ho
  split at ho
  ·simp only [Option.some.injEq, Prod.mk.injEq] at ho; rw [← ho.2.2]; simp
  ·simp at ho
 ·simp at ho
theorem opNew_tput {key : Nat} {T : Nat → AV} {dst : Option Tmp} {r : AV} {op : Op} (h : ∀ d, dst = some d → d ∉ XA op) : Jl P z key (tput T dst r) op = Jl P z key T op := by
 have e : ∀ x ∈ op.operands, evO (tput T dst r) x = evO T x := fun x hx => Ve h hx
 unfold Jl
 split <;> simp only [Op.operands] at e
 ·rfl
 ·rename_i t x y; rw [e x (by simp), e y (by simp)]
 ·rfl
theorem Jm {H : Heap} {key n : Nat} {T : Nat → AV} {dst : Option Tmp} {r : AV} {op : Op} (h : ∀ d, dst = some d → d ∉ XA op) : opA P z H key n (tput T dst r) op = opA P z H key n T op := by
 unfold opA; rw [opNew_tput h]
theorem Qo.put {H : Heap} {k e : Nat} {o : AObj} (h : H k = some (.arr 0 e [])) : Qo H (H.put k (some o)) := fun j => by
 by_cases hj : j = k
 ·left; exact ⟨e, hj ▸ h⟩
 ·right; exact ME _ _ hj
theorem swap_a {i j : Nat} {oi oj : Oper} (hoi : ops[i]? = some oi) (hoj : ops[j]? = some oj) {ki : DK} {key : Nat} {inc : List Nat} (hki : ki.isW = false) {I Ii : List Nat}
   (hap : Apart (ops := ops) oi oj) (hself : ∀ d, oi.dst = some d → d ∉ looks (ops := ops) oi) (hdst : ki = .m ∨ ((∃ d, oi.dst = some d) ∨ ∀ fo args ts, oi.op ≠ .call ⟨.value fo, args, ts⟩)) (hin : ki = .m ∨ i ∈ I)
   (hI : ∀ q ∈ I, q ≠ i → ∀ o, ops[q]? = some o → ∀ d, oi.dst = some d → d ∉ looks (ops := ops) o ∧ o.dst ≠ some d)
   {T : Nat → AV} {H : Heap} {n : Nat} {K : (Nat → AV) → Heap → Nat → Prop} {Q : AEx → (Nat → AV) → Heap → Nat → Prop}
   (h : Yg P z N ops i ki Ii T H n (fun T1 H1 n1 => Yg P z N ops j (.a key inc) I T1 H1 n1 K Q) Q) :
   Yg P z N ops j (.a key inc) (I.filter (· != i)) T H n (fun T2 H2 n2 => Yg P z N ops i ki Ii T2 H2 n2 K Q) Q := by
 rw [Y2 hoi hki] at h
 obtain ⟨hdi, v, hg, h⟩ := h
 unfold Yg at h ⊢
 rw [hoj] at h ⊢
 obtain ⟨hdj, hgd, h⟩ := h
 refine ⟨hdj, hgd, ?_⟩
 have hA1 : ∀ d, oi.dst = some d → d ∉ XA oj.op := fun d hd hm => hap.1 d hd (List.mem_append_left _ hm)
 rw [Jm hA1] at h
 cases hw : opA P z H key n T oj.op with
 | none => rw [hw] at h; exact h.elim
 | some p =>
   obtain ⟨C, r, H', n'⟩ := p
   rw [hw] at h
   obtain ⟨e, o, hk, _, rfl, _⟩ := Jn hw
   obtain ⟨hC, hs, Y⟩ := h
   refine ⟨hC, fun q hq => ?_, ?_⟩
   ·obtain ⟨hq1, hq2⟩ := List.mem_filter.1 hq
    exact (VB (hI q hq1 (by simpa using hq2))).1 (hs q hq1)
   ·show Yg P z N ops i ki Ii (Sx.tput T oj.dst r) _ n' K Q
    rw [Y2 hoi hki]
    refine ⟨hdi, v, ?_, ?_⟩
    ·rw [Good.tput hap.2.1]
     refine Good.heap hoi hg hself (fun _ => ?_) (hin.imp id fun hi => hs i hi _ (Qo.put hk))
     rcases hdst with e | e
     ·subst e
      obtain ⟨g, x, _, ex, _⟩ := hg
      exact .inr fun fo args ts e => by rw [ex] at e; simp at e
     ·exact e
    ·rw [Vs _ _ _ (fun d hd e => hap.2.2 d e hd)]; exact Y
theorem swap_ma {i j : Nat} {oi oj : Oper} (hoi : ops[i]? = some oi) (hoj : ops[j]? = some oj) {key : Nat} {inc : List Nat} {I Ii : List Nat}
   (hap : Apart (ops := ops) oi oj) {x : Operand} (hm : oj.op = .move x) (hgd : oj.guard = none) (hdj : dOK N oj.dst)
   (hI : ∀ q ∈ Ii, ∀ o, ops[q]? = some o → ∀ d, oj.dst = some d → d ∉ looks (ops := ops) o ∧ o.dst ≠ some d)
   {T : Nat → AV} {H : Heap} {n : Nat} {K : (Nat → AV) → Heap → Nat → Prop} {Q : AEx → (Nat → AV) → Heap → Nat → Prop}
   (h : Yg P z N ops i (.a key inc) Ii T H n (fun T1 H1 n1 => Yg P z N ops j .m I T1 H1 n1 K Q) Q) :
   Yg P z N ops j .m I T H n (fun T2 H2 n2 => Yg P z N ops i (.a key inc) Ii T2 H2 n2 K Q) Q := by
 rw [Y2 hoj rfl]
 have hgj : ∀ T H, Good P z ops oj .m T H (putG oj true (strip true (evO T x))) := fun T H => ⟨true, x, by simp [gvO, hgd], hm, rfl⟩
 have hput : ∀ v, putG oj true v = v := fun v => by simp [putG, hgd]
 refine ⟨hdj, _, hgj T H, ?_⟩
 rw [hput]
 unfold Yg at h ⊢
 rw [hoi] at h ⊢
 obtain ⟨hdi, hgi, h⟩ := h
 refine ⟨hdi, hgi, ?_⟩
 have hA1 : ∀ d, oj.dst = some d → d ∉ XA oi.op := fun d hd hm => hap.2.1 d hd (List.mem_append_left _ hm)
 rw [Jm hA1]
 cases hw : opA P z H key n T oi.op with
 | none => rw [hw] at h; exact h.elim
 | some p =>
   obtain ⟨C, r, H', n'⟩ := p
   rw [hw] at h
   obtain ⟨hC, hs, Y⟩ := h
   refine ⟨hC, fun q hq => (VB (hI q hq)).2 (hs q hq), ?_⟩
   have Y : Yg P z N ops j .m I (Sx.tput T oi.dst r) H' n' K Q := Y
   rw [Y2 hoj rfl] at Y
   obtain ⟨_, v, hv, Y⟩ := Y
   obtain ⟨g, x', e1, e2, e3⟩ := hv
   have eg : g = true := by unfold gvO at e1; rw [hgd] at e1; simpa using e1.symm
   rw [hm] at e2
   cases e2
   subst eg
   rw [hput] at e3
   have hx : evO (Sx.tput T oi.dst r) x = evO T x := L6 fun d hd e => hap.1 d hd (List.mem_append_left _ (by rw [hm]; exact QX (by simp [Op.operands, e])))
   rw [hx] at e3
   subst e3
   rw [Vs _ _ _ hap.2.2] at Y
   exact Y
theorem sameOne_trans {q : Nat} {T : Nat → AV} {H H1 H2 : Heap} (h1 : Yz P z ops q T H H1) (h2 : Yz P z ops q T H H2) : Yz P z ops q T H1 H2 := by
 unfold Yz at h1 h2 ⊢
 split
 ·trivial
 ·rename_i o ho
  rw [ho] at h1 h2
  simp only at h1 h2
  split
  ·rename_i fo args ts e1 e2
   rw [e1, e2] at h2
   exact h2
  ·rename_i e1 e2
   rw [e1, e2] at h1
   exact h1
  ·rename_i x1 x2
   split at h1
   ·rename_i fo args ts e1 e2; exact (x1 _ _ _ e1 e2).elim
   ·rename_i fo args ts jb e1 e2; exact (x2 _ _ _ _ e1 e2).elim
   ·split at h2
    ·rename_i fo args ts e1 e2; exact (x1 _ _ _ e1 e2).elim
    ·rename_i fo args ts jb e1 e2; exact (x2 _ _ _ _ e1 e2).elim
    ·intro g hg; exact (h2 g hg).trans (h1 g hg).symm
theorem swap_aa {i j : Nat} {oi oj : Oper} (hoi : ops[i]? = some oi) (hoj : ops[j]? = some oj) {ki kj : Nat} {inci incj : List Nat} {I Ii : List Nat}
   (hap : Apart (ops := ops) oi oj) (hsub : ∀ q ∈ I, q ≠ i → q ∈ Ii)
   (hI : ∀ q ∈ Ii, ∀ o, ops[q]? = some o → ∀ d, oj.dst = some d → d ∉ looks (ops := ops) o ∧ o.dst ≠ some d)
   {T : Nat → AV} {H : Heap} {n : Nat} {K : (Nat → AV) → Heap → Nat → Prop} {Q : AEx → (Nat → AV) → Heap → Nat → Prop}
   (h : Yg P z N ops i (.a ki inci) Ii T H n (fun T1 H1 n1 => Yg P z N ops j (.a kj incj) I T1 H1 n1 K Q) Q) :
   Yg P z N ops j (.a kj incj) (I.filter (· != i)) T H n (fun T2 H2 n2 => Yg P z N ops i (.a ki inci) Ii T2 H2 n2 K Q) Q := by
 have hA1 : ∀ d, oi.dst = some d → d ∉ XA oj.op := fun d hd hm => hap.1 d hd (List.mem_append_left _ hm)
 have hA2 : ∀ d, oj.dst = some d → d ∉ XA oi.op := fun d hd hm => hap.2.1 d hd (List.mem_append_left _ hm)
 unfold Yg at h ⊢
 rw [hoi] at h
 rw [hoj]
 simp only at h ⊢
 obtain ⟨hdi, hgi, h⟩ := h
 cases hw : opA P z H ki n T oi.op with
 | none => rw [hw] at h; exact h.elim
 | some p =>
   obtain ⟨C, r, H1, n1⟩ := p
   rw [hw] at h
   obtain ⟨ei, ob, hki, hni, rfl, rfl⟩ := Jn hw
   obtain ⟨hC, hs, h⟩ := h
   have h' : Yg P z N ops j (.a kj incj) I (Sx.tput T oi.dst r) (H.put ki (some ob)) n1 K Q := h
   clear h
   unfold Yg at h'
   rw [hoj] at h'
   obtain ⟨hdj, hgj, h⟩ := h'
   rw [Jm hA1] at h
   cases hw2 : opA P z (H.put ki (some ob)) kj n1 T oj.op with
   | none => rw [hw2] at h; exact h.elim
   | some p =>
     obtain ⟨C2, r2, H2, n2⟩ := p
     rw [hw2] at h
     obtain ⟨ej, ob2, hkj, hnj, rfl, rfl⟩ := Jn hw2
     obtain ⟨hC2, _, Y⟩ := h
     have hne : kj ≠ ki := fun e => by
       subst e; rw [MG] at hkj
       exact opNew_ver hni ej (Option.some.inj hkj)
     rw [ME _ _ hne] at hkj
     refine ⟨hdj, hgj, ?_⟩
     rw [opA_mk hkj hnj]
     refine ⟨hC2, fun q hq => ?_, ?_⟩
     ·obtain ⟨hq1, hq2⟩ := List.mem_filter.1 hq
      exact hs q (hsub q hq1 (by simpa using hq2))
     ·show Yg P z N ops i (.a ki inci) Ii (Sx.tput T oj.dst r2) (H.put kj (some ob2)) n2 K Q
      unfold Yg
      rw [hoi]
      refine ⟨hdi, hgi, ?_⟩
      have hki' : (H.put kj (some ob2)) ki = some (.arr 0 ei []) := by rw [ME _ _ (Ne.symm hne)]; exact hki
      rw [Jm hA2, opA_mk hki' hni]
      refine ⟨hC, fun q hq => ?_, ?_⟩
      ·refine (VB (hI q hq)).2 fun H3 hag => ?_
       refine sameOne_trans (H := H) (hs q hq _ (Qo.put hkj)) (hs q hq _ fun k => ?_)
       by_cases hk : k = kj
       ·subst hk; left; exact ⟨ej, hkj⟩
       ·rcases hag k with ⟨e, h1⟩ | h1
        ·rw [ME _ _ hk] at h1; left; exact ⟨e, h1⟩
        ·rw [ME _ _ hk] at h1; right; exact h1
      ·rw [Vs _ _ _ (fun d hd e => hap.2.2 d e hd)]
       have eH : (H.put kj (some ob2)).put ki (some ob) = (H.put ki (some ob)).put kj (some ob2) := by
         funext k
         simp only [Heap.put]
         by_cases h1 : k = ki
         ·have : k ≠ kj := fun e => hne (e ▸ h1)
          simp [h1, Ne.symm hne]
         ·by_cases h2 : k = kj <;> simp [h1, h2, hne]
       rw [eH]
       exact Y
end
def Yv (o : Oper) : List Nat := (o.after.toList.filter fun e => Region.binds .any e).map (·.on)
def ancs : List Nat → List Oper → List Nat
 | acc, [] => acc
 | acc, o :: os => ancs (acc ++ [(Yv o).foldl (fun m e => m ||| (1 <<< e) ||| acc.getD e 0) 0]) os
def Y8 (b : List Nat) (p i : Nat) : Bool := (b.getD i 0).testBit p
theorem LW (acc : List Nat) : ∀ (l : List Nat) (m p : Nat), (l.foldl (fun m e => m ||| (1 <<< e) ||| acc.getD e 0) m).testBit p = true → m.testBit p = true ∨ ∃ e ∈ l, p = e ∨ (acc.getD e 0).testBit p = true
 | [], m, p, h => .inl h
 | e :: l, m, p, h => by
   rcases LW acc l _ p h with h | ⟨e', he, h⟩
   ·rw [Nat.testBit_or, Nat.testBit_or, Bool.or_eq_true, Bool.or_eq_true] at h
    rcases h with (h | h) | h
    ·exact .inl h
    ·right
     refine ⟨e, by simp, .inl ?_⟩
     rw [Nat.testBit_shiftLeft] at h
     simp at h
     have h2 : p - e = 0 := by
       rcases Nat.eq_zero_or_pos (p - e) with h0 | h0
       ·exact h0
       ·have := h.2; rw [Nat.testBit_one_eq_true_iff_self_eq_zero] at this; omega
     omega
    ·exact .inr ⟨e, by simp, .inr h⟩
   ·exact .inr ⟨e', by simp [he], h⟩
theorem Mx : ∀ (os : List Oper) (acc : List Nat) (i : Nat), i < acc.length → (ancs acc os).getD i 0 = acc.getD i 0
 | [], acc, i, h => rfl
 | o :: os, acc, i, h => by
   unfold ancs
   rw [Mx os _ i (by simp; omega)]
   simp [List.getD, List.getElem?_append_left h]
theorem Uo : ∀ (os : List Oper) (acc : List Nat) (i : Nat) (o : Oper), os[i]? = some o → (∀ e ∈ Yv o, e < acc.length + i) → ∀ p, ((ancs acc os).getD (acc.length + i) 0).testBit p = true →
   ∃ e ∈ Yv o, p = e ∨ ((ancs acc os).getD e 0).testBit p = true
 | [], acc, i, o, h, _, p, _ => by simp at h
 | o' :: os, acc, 0, o, h, he, p, hp => by
   simp at h
   subst h
   have e0 : (ancs acc (o' :: os)).getD (acc.length + 0) 0 = (Yv o').foldl (fun m e => m ||| (1 <<< e) ||| acc.getD e 0) 0 := by
     unfold ancs
     rw [Mx os _ _ (by simp)]
     simp [List.getD]
   rw [e0] at hp
   rcases LW acc _ _ _ hp with h | ⟨e, hee, h⟩
   ·simp at h
   ·refine ⟨e, hee, h.imp id fun h => ?_⟩
    have := he e hee
    unfold ancs
    rw [Mx os _ e (by simp; omega)]
    rw [show (acc ++ [List.foldl (fun m e => m ||| 1 <<< e ||| acc.getD e 0) 0 (Yv o')]).getD e 0 = acc.getD e 0 by simp [List.getD, List.getElem?_append_left (show e < acc.length by omega)]]
    exact h
 | o' :: os, acc, i + 1, o, h, he, p, hp => by
   simp at h
   have := Uo os (acc ++ [(Yv o').foldl (fun m e => m ||| (1 <<< e) ||| acc.getD e 0) 0]) i o h (fun e hee => by have := he e hee; simp; omega) p
     (by simp only [List.length_append, List.length_cons, List.length_nil]; rw [show acc.length + (0 + 1) + i = acc.length + (i + 1) by omega]; exact hp)
   exact this
def disj (a b : List Nat) : Bool := a.all fun x => !b.contains x
section
variable (ops : Array Oper)
def XN (l : List Oper) (o : Oper) : List Tmp :=
 XA o.op ++ (match o.guard with | some (j, _) => ((l[j]?).bind (·.dst)).toList | none => [])
theorem YY (o : Oper) : XN ops.toList o = looks (ops := ops) o := by
 unfold XN looks LV gtmp
 cases o.guard with
 | none => rfl
 | some jb => obtain ⟨j, b⟩ := jb; simp
def WQ : Op → Bool
 | .call ⟨.value _, _, _⟩ => true
 | _ => false
def J6 : Op → Bool
 | .move _ => true
 | _ => false
def apartB (l : List Oper) (o o' : Oper) : Bool :=
 disj o.dst.toList (XN l o') && disj o'.dst.toList (XN l o) && disj o.dst.toList o'.dst.toList
def pairB (l : List Oper) (N i j : Nat) (oi oj : Oper) (ki kj : DK) : Bool :=
 apartB l oi oj &&
 match ki, kj with
 | .w _, .m => J6 oj.op && oj.guard.isNone && (match oj.dst with | some d => decide (d < N) | none => true) && disj oj.dst.toList (ki.inc.flatMap fun q => match l[q]? with | some o => XN l o ++ o.dst.toList | none => [])
 | .a _ _, .m => J6 oj.op && oj.guard.isNone && (match oj.dst with | some d => decide (d < N) | none => true) && disj oj.dst.toList (ki.inc.flatMap fun q => match l[q]? with | some o => XN l o ++ o.dst.toList | none => [])
 | .w _, _ => false
 | .a _ _, _ => false
 | .m, _ => true
 | _, .w inc => inc.contains i && (oi.dst.isSome || !WQ oi.op)
 | _, .a _ inc => inc.contains i && (oi.dst.isSome || !WQ oi.op)
 | _, _ => true
def incB (l : List Oper) (b : List Nat) (j q : Nat) : Bool :=
 match l[q]? with
 | none => false
 | some oq => decide (q < j) && disj oq.dst.toList (XN l oq) &&
   (List.range j).all fun p => p == q || Y8 b p q || (match l[p]? with | some op => disj op.dst.toList (XN l oq ++ oq.dst.toList) | none => true)
def selfB (l : List Oper) (o : Oper) : Bool := disj o.dst.toList (XN l o)
def U4 (l : List Oper) (N : Nat) (ks : List DK) : Bool :=
 let b := ancs [] l
 ks.length == l.length &&
 (l.zipIdx.all fun (o, i) => (Yv o).all fun e => decide (e < i)) &&
 ((l.zip ks).zipIdx.all fun ((oj, kj), j) =>
   (match kj with | .w inc => inc.all fun q => incB l b j q | .a _ inc => inc.all fun q => incB l b j q | _ => true) &&
   ((l.zip ks).zipIdx.take j).all fun ((oi, ki), i) => Y8 b i j || (pairB l N i j oi oj ki kj && (selfB l oi || ki.isW)))
end
theorem Uh {a b : List Nat} (h : disj a b = true) {x : Nat} (hx : x ∈ a) : x ∉ b := by
 unfold disj at h
 have := List.all_eq_true.1 h x hx
 simpa using this
theorem Qk {ops : Array Oper} {o o' : Oper} (h : apartB ops.toList o o' = true) : Apart (ops := ops) o o' := by
 unfold apartB at h
 simp only [Bool.and_eq_true] at h
 refine ⟨fun d hd => ?_, fun d hd => ?_, fun d hd e => ?_⟩
 ·rw [← YY]; exact Uh h.1.1 (by simp [hd])
 ·rw [← YY]; exact Uh h.1.2 (by simp [hd])
 ·exact Uh h.2 (x := d) (by simp [hd]) (by simp [e])
section
variable {P : Program} {z : TypeId → AV} {N : Nat} {ops : Array Oper}
def Qm (ops : Array Oper) (N : Nat) (i : Nat) (ki : DK) (j : Nat) (kj : DK) : Prop :=
 ∃ oi oj, ops[i]? = some oi ∧ ops[j]? = some oj ∧ Apart (ops := ops) oi oj ∧
   ((ki.isW = false ∧ kj.isW = false) ∨
    (ki.isW = false ∧ kj.isW = true ∧ (∀ d, oi.dst = some d → d ∉ looks (ops := ops) oi) ∧ (ki = .m ∨ ((∃ d, oi.dst = some d) ∨ ∀ fo args ts, oi.op ≠ .call ⟨.value fo, args, ts⟩))) ∨
    (ki.isW = true ∧ kj = .m ∧ (∃ x, oj.op = .move x) ∧ oj.guard = none ∧ dOK N oj.dst ∧ ∀ q ∈ ki.inc, ∀ o, ops[q]? = some o → ∀ d, oj.dst = some d → d ∉ looks (ops := ops) o ∧ o.dst ≠ some d))
def Un (ops : Array Oper) (p q : Nat) : Prop := ∀ op oq, ops[p]? = some op → ops[q]? = some oq → ∀ d, op.dst = some d → d ∉ looks (ops := ops) oq ∧ oq.dst ≠ some d
theorem front {Q : AEx → (Nat → AV) → Heap → Nat → Prop} (hpan : ∀ p T T' H n, Q (.pan p) T H n → Q (.pan p) T' H n) (j : Nat) (kj : DK) :
   ∀ (m : Nat) (pre : List (Nat × DK × List Nat)) (I : List Nat) (post : List (Nat × DK × List Nat)) (T : Nat → AV) (H : Heap) (n : Nat), pre.length = m →
     (∀ p ∈ pre, ∀ x ∈ p.2.2, x ∈ p.2.1.inc) → (∀ p ∈ pre, Qm ops N p.1 p.2.1 j kj) → (kj.isW = true → ∀ p ∈ pre, p.2.1 = .m ∨ p.1 ∈ I) →
     (pre.map (·.1)).Pairwise (· < ·) → (kj.isW = true → ∀ q ∈ I, ∀ p ∈ pre, p.1 ≠ q → (p.1 < q ∧ q ∈ pre.map (·.1)) ∨ Un ops p.1 q) →
     drun P z N ops (pre ++ (j, kj, I) :: post) T H n Q → ∃ I', Yg P z N ops j kj I' T H n (fun T H n => drun P z N ops (pre ++ post) T H n Q) Q
 | 0, pre, I, post, T, H, n, hm, _, _, _, _, _, h => by
   have : pre = [] := List.length_eq_zero_iff.1 hm
   subst this
   exact ⟨I, h⟩
 | m + 1, pre, I, post, T, H, n, hm, hinc, hpair, hin, hsort, hCI, h => by
   rcases List.eq_nil_or_concat pre with rfl | ⟨L, ⟨i, ki, Ii⟩, rfl⟩
   ·simp at hm
   ·simp only [List.concat_eq_append] at *
    rw [List.append_assoc] at h
    simp only [List.cons_append, List.nil_append] at h
    have hLm : L.length = m := by simpa using hm
    rw [List.map_append, List.pairwise_append] at hsort
    obtain ⟨hsortL, _, hlt⟩ := hsort
    have hlt' : ∀ p ∈ L, p.1 < i := fun p hp => hlt p.1 (List.mem_map.2 ⟨p, hp, rfl⟩) i (by simp)
    have hlast : kj.isW = true → ∀ q ∈ I, q ≠ i → Un ops i q := fun hw q hq hne => by
      rcases hCI hw q hq (i, ki, Ii) (by simp) (fun e => hne e.symm) with ⟨h1, h2⟩ | h1
      ·exfalso
       rw [List.map_append, List.mem_append] at h2
       rcases h2 with h2 | h2
       ·obtain ⟨p, hp, e⟩ := List.mem_map.1 h2
        have := hlt' p hp
        simp only at h1 e
        omega
       ·simp at h2; exact hne h2
      ·exact h1
    obtain ⟨oi, oj, hoi, hoj, hap, hcase⟩ := hpair (i, ki, Ii) (by simp)
    have hb : ∀ T H n, drun P z N ops ((i, ki, Ii) :: (j, kj, I) :: post) T H n Q → drun P z N ops ((j, kj, if kj.isW then I.filter (· != i) else I) :: (i, ki, Ii) :: post) T H n Q := fun T H n h => by
      rcases hcase with ⟨h1, h2⟩ | ⟨h1, h2, h3, h4⟩ | ⟨h1, h2, ⟨x, hx⟩, h4, h5, h6⟩
      ·simp only [h2, Bool.false_eq_true, if_false]
       exact swap_q hoi hoj h1 h2 hap h
      ·simp only [h2, if_true]
       cases kj with
       | w inc =>
         refine swap_w hoi hoj h1 hap h3 h4 ?_ (fun q hq hne o ho d hd => hlast rfl q hq hne oi o hoi ho d hd) hpan h
         exact hin rfl (i, ki, Ii) (by simp)
       | a key inc =>
         refine swap_a hoi hoj h1 hap h3 h4 ?_ (fun q hq hne o ho d hd => hlast rfl q hq hne oi o hoi ho d hd) h
         exact hin rfl (i, ki, Ii) (by simp)
       | m => simp [DK.isW] at h2
       | q => simp [DK.isW] at h2
       | c => simp [DK.isW] at h2
      ·subst h2
       simp only [DK.isW, Bool.false_eq_true, if_false]
       cases ki with
       | w inc => exact swap_m hoi hoj hap hx h4 h5 (fun q hq => h6 q (hinc (i, .w inc, Ii) (by simp) q hq)) hpan h
       | a key inc => exact swap_ma hoi hoj hap hx h4 h5 (fun q hq => h6 q (hinc (i, .a key inc, Ii) (by simp) q hq)) h
       | m => simp [DK.isW] at h1
       | q => simp [DK.isW] at h1
       | c => simp [DK.isW] at h1
    have h2 := VI hb L T H n h
    obtain ⟨I', hI'⟩ := front hpan j kj m L (if kj.isW then I.filter (· != i) else I) ((i, ki, Ii) :: post) T H n hLm (fun p hp => hinc p (by simp [hp])) (fun p hp => hpair p (by simp [hp]))
      (fun hw p hp => (hin hw p (by simp [hp])).imp id fun h => by
        rw [if_pos hw]
        exact List.mem_filter.2 ⟨h, by have := hlt' p hp; simp; omega⟩) hsortL
      (fun hw q hq p hp hne => by
        rw [if_pos hw] at hq
        obtain ⟨hq1, hq2⟩ := List.mem_filter.1 hq
        rcases hCI hw q hq1 p (by simp [hp]) hne with ⟨h1, h2⟩ | h1
        ·rw [List.map_append, List.mem_append] at h2
         rcases h2 with h2 | h2
         ·exact .inl ⟨h1, h2⟩
         ·simp at h2 hq2; exact absurd h2 hq2
        ·exact .inr h1) h2
    exact ⟨I', by rw [List.append_assoc]; exact hI'⟩
theorem Step.newAt {c : Ctx} {H : Heap} {n : Nat} {w : World} (hs : Sim c H n w) {key e0 : Nat} (hk : H key = some (.arr 0 e0 [])) (arr : Array Value) (ty : TypeId) (cap esz : Nat) (els : List AV) (ds : List Value)
   (hz : ∀ x ∈ els, x.sz = esz) (hcap : els.length ≤ cap) (hsz : arr.size = cap * esz) (hr : RelF c els ds) (ha : At arr 0 ds) :
   Step c H w (c.addLoc key 1 (.blk w.heap.size cap esz)) (H.put key (some (.arr 1 esz els))) n (w.alloc (.cells arr ty)) := by
 have hkn : key < n := by
   rcases Nat.lt_or_ge key n with h | h
   ·exact h
   ·have := (hs.fresh key h).1; rw [hk] at this; simp at this
 have hv1 : c.ρ key 1 = none := hs.vers key _ 1 hk (by simp [AObj.ver])
 refine Step.renew (n' := n) hs key (.arr 1 esz els) (.blk w.heap.size cap esz) (Nat.le_refl _) hkn hv1 (fun v hv => hs.vers key _ v hk (by simp [AObj.ver] at hv ⊢; omega)) (.alloc _ _ _) ?_ ?_ ?_ ?_
 ·intro k' o' b _ hk' hb
  have := (hs.own k' o' hk').lt hb
  show (w.heap.push _)[b]? = _
  rw [Array.getElem?_push, if_neg (by omega)]
 ·intro b a hb
  obtain ⟨ty, fr, hx⟩ := hs.ro b a hb
  have : b < w.heap.size := by
    rcases Nat.lt_or_ge b w.heap.size with h | h
    ·exact h
    ·rw [Array.getElem?_eq_none h] at hx; simp at hx
  show (w.heap.push _)[b]? = _
  rw [Array.getElem?_push, if_neg (by omega)]
 ·simp only [Ya]
  refine ⟨_, MH, rfl, hz, hcap, arr, ty, ds, ?_, hsz, RelF.mono (ML hv1) _ _ hr, ha⟩
  show (w.heap.push _)[w.heap.size]? = _
  simp
 ·intro b cap' e' h
  simp only [Loc.blk.injEq] at h
  obtain ⟨rfl, _, _⟩ := h
  refine ⟨?_, .inl (Nat.le_refl _)⟩
  cases hr : c.ro w.heap.size with
  | none => rfl
  | some a =>
    obtain ⟨ty, fr, hx⟩ := hs.ro _ a hr
    rw [Array.getElem?_eq_none (Nat.le_refl _)] at hx; simp at hx
theorem opA_sound {H : Heap} {key n : Nat} {T : Nat → AV} {dst : Option Tmp} {op : Op} {ty : TypeId} {pos : String} {after : Array Edge} {guard : Option (Nat × Bool)} {C : Prop} {r : AV} {H' : Heap} {n' : Nat} {K : ARes → Heap → Nat → Prop}
   (h : opA P z H key n T op = some (C, r, H', n')) (hC : C) (Y : K (.val r) H' n') : OpT P ⟨dst, op, ty, pos, after, guard⟩ (evO T) H n K := by
 obtain ⟨e0, o, hk, ho, rfl, rfl⟩ := Jn h
 refine OpT.of_run fun c w ρv hs hr => ?_
 unfold Jl at ho
 split at ho
 ·rename_i t
  simp only [Option.some.injEq, Prod.mk.injEq] at ho
  obtain ⟨rfl, rfl, rfl⟩ := ho
  obtain ⟨hm, i, v, hi, hv, hz⟩ := hC
  obtain ⟨hm, hsz, ho⟩ := XU (hz c) hm
  refine ⟨_, .pointer (some ⟨w.heap.size, 0, none⟩), _, _, _, w.alloc (.cells v.cells t), .inl (by simp [execOp, Instr.alloc, zeroValue, typeInfo, hi, hv, newVar, newRow]),
    Step.newAt hs hk v.cells t 1 (z t).sz [z t] _ (by simp) (by simp) (by simp [hsz]) (by simp only [RelF]; exact ⟨_, [], by simp, hm, rfl⟩) (At.self rfl), ?_, Y⟩
  simp only [Rel]; exact ⟨_, _, _, MH, rfl⟩
 ·rename_i t x y
  have hx := hr x (by simp [Op.operands])
  have hy := hr y (by simp [Op.operands])
  generalize evO T x = a at ho hx
  generalize evO T y = b at ho hy
  unfold newMk at ho
  split at ho
  ·rename_i e s by' k1 l k2 m he hel
   simp only [Option.some.injEq, Prod.mk.injEq] at ho
   obtain ⟨rfl, rfl, rfl⟩ := ho
   obtain ⟨c1, c2, c3, c4, c5, hm, i, v, hi, hv, hz⟩ := hC
   obtain ⟨e2, i2, v2, hu, hi2, hv2, hvs, hpos, hsz2, hby⟩ := UR hel
   have hu1 := tElT_spec he
   rw [hu1] at hu
   cases hu
   rw [hi] at hi2; cases hi2
   rw [hv] at hv2; cases hv2
   obtain ⟨hcm, hsz, ho⟩ := XU (hz c) hm
   simp only [Rel, List.cons.injEq, and_true] at hx hy
   have hrun := run_make (P := P) w t e i v hu1 hi hv k1 k2 l m c1 c2 (by rw [hby]; exact c3) c4
   refine ⟨_, .slice (some ⟨w.heap.size, 0, none⟩) l.toNat m.toNat, _, _, _, w.alloc (.cells (madeCells v.cells (m.toNat * i.size)) e), .inl (by simp [execOp, hx, hy, hrun]),
     Step.newAt hs hk (madeCells v.cells (m.toNat * i.size)) e m.toNat s (List.replicate m.toNat (z e)) _ (fun y hy => by rw [(List.mem_replicate.1 hy).2, c5]) (by simp) (by rw [size_madeCells, hsz2]) (JU hvs hcm _) (At.self rfl), ?_, Y⟩
   simp only [Rel]
   refine ⟨_, MH, m.toNat, 0, by omega, by omega, by simp, rfl⟩
  ·simp at ho
 ·simp at ho
theorem Ku {i : Nat} {k : DK} {I : List Nat} {T : Nat → AV} {H : Heap} {n : Nat} {K : (Nat → AV) → Heap → Nat → Prop} {Q : AEx → (Nat → AV) → Heap → Nat → Prop}
   (h : Yg P z N ops i k I T H n K Q) {ds : List Deferred} {c0 : Ctx} {H0 : Heap} {w0 : World} {c : Ctx} {w : World} {a : Act} (hst : Step c0 H0 w0 c H n w) (hr : Z4 c T a.tmps) (hN : a.tmps.size = N) (hd : a.defers = ds)
   {next : Act → World → Prop} (hnext : ∀ T' c' H' n' a' w', K T' H' n' → Step c0 H0 w0 c' H' n' w' → Z4 c' T' a'.tmps → a'.tmps.size = N → a'.defers = ds → next a' w') :
   wpOp P ops (Qp N ds c0 H0 w0 Q) i next a w := by
 unfold Yg at h
 unfold wpOp
 split at h
 ·exact h.elim
 ·rename_i o ho
  rw [ho]
  simp only
  obtain ⟨hdst, h⟩ := h
  have hd' : ∀ d, o.dst = some d → d < a.tmps.size := fun d hd2 => by rw [hd2] at hdst; rw [hN]; exact hdst
  have hε : ∀ x ∈ o.op.operands, Rel c (evO T x) false [a.eval x] := fun x _ => Uy hr x
  have hgv : ∀ g, gvO ops T o = some g → Region.wanted o (yielded ops a.tmps) = g := fun g hg => by
    unfold gvO at hg
    cases hgd : o.guard with
    | none => rw [hgd] at hg; simp at hg; subst hg; exact XI hgd
    | some jb =>
      obtain ⟨j, b⟩ := jb
      rw [hgd] at hg
      simp only at hg
      cases ht : gtmp ops j with
      | none => rw [ht] at hg; simp at hg
      | some t => rw [ht] at hg; exact gval_spec hr hgd ht (by simpa using hg)
  have skip : ∀ r, K (tput T o.dst (putG o false r)) H n → gvO ops T o = some false → next (a.put o.dst undef) w := fun r Y hg => by
    refine hnext _ c H n _ w Y hst ?_ (by rw [X7, hN]) (by rw [YW, hd])
    refine X0 hr ?_ hd'
    unfold putG
    cases hgd : o.guard with
    | none => unfold gvO at hg; rw [hgd] at hg; simp at hg
    | some _ => simp [Rel]
  have put_true : ∀ c' r v, Rel c' r false [v] → Rel c' (putG o true r) false [v] := fun c' r v h => by
    unfold putG
    cases o.guard with
    | none => exact h
    | some _ => exact opt_rel rfl h
  have doQ : ∀ r, QT P o.op T H r → K (tput T o.dst (putG o true r)) H n → o.wp P a w next (Qp N ds c0 H0 w0 Q) := fun r hq Y => by
    refine MQ (n := n) (K := fun res H' n' => res = .val r ∧ H' = H ∧ n' = n) hq ⟨rfl, rfl, rfl⟩ c w a hst.sim hε _ _ ?_ ?_
    ·rintro r' v c' H' n' w' ⟨e1, rfl, rfl⟩ hst' hrel
     cases e1
     exact hnext _ c' _ _ _ w' Y (hst.trans hst') (X0 (Z4.mono hst'.le hr) (put_true _ _ _ hrel) hd') (by rw [X7, hN]) (by rw [YW, hd])
    ·rintro p v c' H' n' w' ⟨e1, _, _⟩
     cases e1
  cases k with
  | m =>
    simp only at h
    cases hg : gvO ops T o with
    | none => rw [hg] at h; exact h.elim
    | some g =>
      rw [hg] at h
      simp only [Yc] at h
      split at h
      ·rename_i x ex
       cases g with
       | true =>
         rw [if_pos (hgv true hg)]
         left
         exact doQ _ (by rw [ex]; exact MJ rfl qs_move) h
       | false =>
         rw [if_neg (by simp [hgv false hg])]
         exact skip _ h hg
      ·exact h.elim
  | q =>
    simp only at h
    cases hg : gvO ops T o with
    | none => rw [hg] at h; exact h.elim
    | some g =>
      rw [hg] at h
      simp only [Yc] at h
      cases hq : opQ P z H g T o.op with
      | none =>
        rw [hq] at h
        obtain ⟨rfl, h⟩ := h
        rw [if_neg (by simp [hgv false hg])]
        exact skip _ h hg
      | some p =>
        obtain ⟨C, r⟩ := p
        rw [hq] at h
        cases g with
        | true =>
          rw [if_pos (hgv true hg)]
          left
          exact doQ _ (Ug hq rfl (h.1 rfl)) h.2
        | false =>
          rw [if_neg (by simp [hgv false hg])]
          exact skip _ h.2 hg
  | c =>
    simp only at h
    split at h
    ·rename_i fo args ts ex
     cases hg : gvO ops T o with
     | none => rw [hg] at h; exact h.elim
     | some g =>
       rw [hg] at h
       obtain ⟨r, h1, h2⟩ := h
       cases g with
       | true =>
         rw [if_pos (hgv true hg)]
         left
         have hcall := OpT.call (P := P) (dst := o.dst) (ty := o.type) (pos := o.pos) (after := o.after) (guard := o.guard) (ts := ts) (ε := fun x => strip true (evO T x)) (h1 rfl n)
         have eo : (⟨o.dst, .call ⟨.value fo, args, ts⟩, o.type, o.pos, o.after, o.guard⟩ : Oper) = o := by rw [← ex]
         rw [eo] at hcall
         refine hcall c w a hst.sim (fun x hx => Qt rfl (hε x hx)) _ _ ?_ ?_
         ·rintro r' v c' H' n' w' ⟨rfl, rfl, rfl⟩ hst' hrel
          exact hnext _ c' _ _ _ w' h2 (hst.trans hst') (X0 (Z4.mono hst'.le hr) (put_true _ _ _ hrel) hd') (by rw [X7, hN]) (by rw [YW, hd])
         ·intro p v c' H' n' w' hf; exact hf.elim
       | false =>
         rw [if_neg (by simp [hgv false hg])]
         exact skip _ h2 hg
    ·exact h.elim
  | w inc =>
    obtain ⟨hgd, h⟩ := h
    rw [if_pos (XI hgd)]
    left
    split at h
    ·rename_i fo args ts ex
     have hcall := OpT.call (P := P) (dst := o.dst) (ty := o.type) (pos := o.pos) (after := o.after) (guard := o.guard) (ts := ts) (ε := evO T) h
     have eo : (⟨o.dst, .call ⟨.value fo, args, ts⟩, o.type, o.pos, o.after, o.guard⟩ : Oper) = o := by rw [← ex]
     rw [eo] at hcall
     refine hcall c w a hst.sim hε _ _ ?_ ?_
     ·rintro r v c' H' n' w' ⟨_, Y⟩ hst' hrel
      exact hnext _ c' _ _ _ w' Y (hst.trans hst') (X0 (Z4.mono hst'.le hr) hrel hd') (by rw [X7, hN]) (by rw [YW, hd])
     ·intro p v c' H' n' w' hq hst' hrel
      exact ⟨.pan p, c', T, H', n', hq, ⟨v, rfl, hrel⟩, hst.trans hst', Z4.mono hst'.le hr, hN, hd⟩
    ·rename_i hne
     cases hw : opW P z H n T o.op with
     | none => rw [hw] at h; exact h.elim
     | some p =>
       obtain ⟨C, r, H', n'⟩ := p
       rw [hw] at h
       obtain ⟨hC, _, Y⟩ := h
       have eo : (⟨o.dst, o.op, o.type, o.pos, o.after, o.guard⟩ : Oper) = o := rfl
       have hop := J3 (dst := o.dst) (ty := o.type) (pos := o.pos) (after := o.after) (guard := o.guard) (K := fun res H2 n2 => res = .val r ∧ H2 = H' ∧ n2 = n') hw hC ⟨rfl, rfl, rfl⟩
       rw [eo] at hop
       refine hop c w a hst.sim hε _ _ ?_ ?_
       ·rintro r' v c' H2 n2 w' ⟨e1, rfl, rfl⟩ hst' hrel
        cases e1
        exact hnext _ c' _ _ _ w' Y (hst.trans hst') (X0 (Z4.mono hst'.le hr) hrel hd') (by rw [X7, hN]) (by rw [YW, hd])
       ·rintro p v c' H' n' w' ⟨e1, _, _⟩
        cases e1
  | a key inc =>
    obtain ⟨hgd, h⟩ := h
    rw [if_pos (XI hgd)]
    left
    cases hw : opA P z H key n T o.op with
    | none => rw [hw] at h; exact h.elim
    | some p =>
      obtain ⟨C, r, H', n'⟩ := p
      rw [hw] at h
      obtain ⟨hC, _, Y⟩ := h
      have eo : (⟨o.dst, o.op, o.type, o.pos, o.after, o.guard⟩ : Oper) = o := rfl
      have hop := opA_sound (dst := o.dst) (ty := o.type) (pos := o.pos) (after := o.after) (guard := o.guard) (K := fun res H2 n2 => res = .val r ∧ H2 = H' ∧ n2 = n') hw hC ⟨rfl, rfl, rfl⟩
      rw [eo] at hop
      refine hop c w a hst.sim hε _ _ ?_ ?_
      ·rintro r' v c' H2 n2 w' ⟨e1, rfl, rfl⟩ hst' hrel
       cases e1
       exact hnext _ c' _ _ _ w' Y (hst.trans hst') (X0 (Z4.mono hst'.le hr) hrel hd') (by rw [X7, hN]) (by rw [YW, hd])
      ·rintro p v c' H' n' w' ⟨e1, _, _⟩
       cases e1
structure Checked (ops : Array Oper) (N : Nat) (ks : List DK) : Prop where
 len : ks.length = ops.size
 edges : ∀ i o, ops[i]? = some o → ∀ e ∈ Yv o, e < i
 pair : ∀ i j ki kj, i < j → ks[i]? = some ki → ks[j]? = some kj → Y8 (ancs [] ops.toList) i j = false → Qm ops N i ki j kj ∧ (kj.isW = true → ki = .m ∨ i ∈ kj.inc)
 inc : ∀ j kj, ks[j]? = some kj → ∀ q ∈ kj.inc, q < j ∧ ∀ p, p < j → p ≠ q → Y8 (ancs [] ops.toList) p q = false → Un ops p q
theorem XH {α : Type} (l : List α) (i : Nat) (x : α) (h : l[i]? = some x) : (x, i) ∈ l.zipIdx := by
 rw [List.mem_zipIdx_iff_getElem?]; exact h
theorem Kv {ks : List DK} (h : U4 ops.toList N ks = true) : Checked ops N ks := by
 unfold U4 at h
 simp only [Bool.and_eq_true] at h
 obtain ⟨⟨h1, h2⟩, h3⟩ := h
 have hlen : ks.length = ops.size := by simpa using h1
 have hzip : ∀ i o k, ops[i]? = some o → ks[i]? = some k → (ops.toList.zip ks)[i]? = some (o, k) := fun i o k ho hk => by
   rw [List.getElem?_zip_eq_some]; exact ⟨by simpa using ho, hk⟩
 have hop : ∀ (i : Nat) (k : DK), ks[i]? = some k → ∃ o, ops[i]? = some o := fun i k hk => by
   have : i < ks.length := by
     rcases Nat.lt_or_ge i ks.length with h | h
     ·exact h
     ·rw [List.getElem?_eq_none h] at hk; simp at hk
   exact ⟨ops[i]'(by omega), by simp [Array.getElem?_eq_getElem (show i < ops.size by omega)]⟩
 have hdisj : ∀ {d : Option Tmp} {l : List Nat}, disj d.toList l = true → ∀ x, d = some x → x ∉ l := fun h x hx => Uh h (by simp [hx])
 refine ⟨hlen, fun i o ho e he => ?_, fun i j ki kj hij hki hkj hanc => ?_, fun j kj hkj q hq => ?_⟩
 ·have := List.all_eq_true.1 h2 (o, i) (XH _ _ _ (by simpa using ho))
  exact of_decide_eq_true (List.all_eq_true.1 this e he)
 ·obtain ⟨oi, hoi⟩ := hop i ki hki
  obtain ⟨oj, hoj⟩ := hop j kj hkj
  have hj := List.all_eq_true.1 h3 ((oj, kj), j) (XH _ _ _ (hzip j oj kj hoj hkj))
  simp only [Bool.and_eq_true] at hj
  have hmem : ((oi, ki), i) ∈ (ops.toList.zip ks).zipIdx.take j := by
    rw [List.mem_iff_getElem?]
    refine ⟨i, ?_⟩
    rw [List.getElem?_take_of_lt hij, List.getElem?_zipIdx, hzip i oi ki hoi hki]; simp
  have hi := List.all_eq_true.1 hj.2 _ hmem
  simp only [hanc, Bool.false_or, Bool.and_eq_true, Bool.or_eq_true] at hi
  obtain ⟨hp, hself⟩ := hi
  unfold pairB at hp
  rw [Bool.and_eq_true] at hp
  obtain ⟨hap, hp⟩ := hp
  have hA := Qk hap
  have hs : ki.isW = false → ∀ d, oi.dst = some d → d ∉ looks (ops := ops) oi := fun hk d hd => by
    rw [hk] at hself
    have := hself.resolve_right (by simp)
    rw [← YY]; exact hdisj this d hd
  have mres : ki.isW = false → kj.isW = false → Qm ops N i ki j kj := fun a b => ⟨oi, oj, hoi, hoj, hA, .inl ⟨a, b⟩⟩
  cases kj with
  | a key inc =>
    cases ki with
    | w inc' => simp at hp
    | a key' inc' => simp at hp
    | m => exact ⟨⟨oi, oj, hoi, hoj, hA, .inr (.inl ⟨rfl, rfl, hs rfl, .inl rfl⟩)⟩, fun _ => .inl rfl⟩
    | q =>
      simp only [Bool.and_eq_true, Bool.or_eq_true, Bool.not_eq_true'] at hp
      refine ⟨⟨oi, oj, hoi, hoj, hA, .inr (.inl ⟨rfl, rfl, hs rfl, .inr ?_⟩)⟩, fun _ => .inr (by simpa [DK.inc] using hp.1)⟩
      rcases hp.2 with h | h
      ·left; cases hd : oi.dst <;> simp_all
      ·right; intro fo args ts e; rw [e] at h; simp [WQ] at h
    | c =>
      simp only [Bool.and_eq_true, Bool.or_eq_true, Bool.not_eq_true'] at hp
      refine ⟨⟨oi, oj, hoi, hoj, hA, .inr (.inl ⟨rfl, rfl, hs rfl, .inr ?_⟩)⟩, fun _ => .inr (by simpa [DK.inc] using hp.1)⟩
      rcases hp.2 with h | h
      ·left; cases hd : oi.dst <;> simp_all
      ·right; intro fo args ts e; rw [e] at h; simp [WQ] at h
  | w inc =>
    cases ki with
    | w inc' => simp at hp
    | a key' inc' => simp at hp
    | m => exact ⟨⟨oi, oj, hoi, hoj, hA, .inr (.inl ⟨rfl, rfl, hs rfl, .inl rfl⟩)⟩, fun _ => .inl rfl⟩
    | q =>
      simp only [Bool.and_eq_true, Bool.or_eq_true, Bool.not_eq_true'] at hp
      refine ⟨⟨oi, oj, hoi, hoj, hA, .inr (.inl ⟨rfl, rfl, hs rfl, .inr ?_⟩)⟩, fun _ => .inr (by simpa [DK.inc] using hp.1)⟩
      rcases hp.2 with h | h
      ·left; cases hd : oi.dst <;> simp_all
      ·right; intro fo args ts e; rw [e] at h; simp [WQ] at h
    | c =>
      simp only [Bool.and_eq_true, Bool.or_eq_true, Bool.not_eq_true'] at hp
      refine ⟨⟨oi, oj, hoi, hoj, hA, .inr (.inl ⟨rfl, rfl, hs rfl, .inr ?_⟩)⟩, fun _ => .inr (by simpa [DK.inc] using hp.1)⟩
      rcases hp.2 with h | h
      ·left; cases hd : oi.dst <;> simp_all
      ·right; intro fo args ts e; rw [e] at h; simp [WQ] at h
  | m =>
    cases ki with
    | w inc' =>
      simp only [Bool.and_eq_true] at hp
      obtain ⟨⟨⟨p1, p2⟩, p3⟩, p4⟩ := hp
      refine ⟨⟨oi, oj, hoi, hoj, hA, .inr (.inr ⟨rfl, rfl, ?_, ?_, ?_, fun q hq o ho d hd => ?_⟩)⟩, fun h => by simp [DK.isW] at h⟩
      ·unfold J6 at p1; split at p1
       ·rename_i x e; exact ⟨x, e⟩
       ·simp at p1
      ·simpa using p2
      ·cases hd : oj.dst with
       | none => trivial
       | some d => rw [hd] at p3; show d < N; exact of_decide_eq_true p3
      ·have hn := hdisj p4 d hd
       have : ∀ x, x ∈ XN ops.toList o ++ o.dst.toList → d ≠ x := fun x hx e => hn (List.mem_flatMap.2 ⟨q, hq, by simp only [Array.getElem?_toList, ho]; rw [e]; exact hx⟩)
       refine ⟨fun hm => ?_, fun e => ?_⟩
       ·rw [← YY] at hm
        exact this d (List.mem_append_left _ hm) rfl
       ·exact this d (List.mem_append_right _ (by simp [e])) rfl
    | a key' inc' =>
      simp only [Bool.and_eq_true] at hp
      obtain ⟨⟨⟨p1, p2⟩, p3⟩, p4⟩ := hp
      refine ⟨⟨oi, oj, hoi, hoj, hA, .inr (.inr ⟨rfl, rfl, ?_, ?_, ?_, fun q hq o ho d hd => ?_⟩)⟩, fun h => by simp [DK.isW] at h⟩
      ·unfold J6 at p1; split at p1
       ·rename_i x e; exact ⟨x, e⟩
       ·simp at p1
      ·simpa using p2
      ·cases hd : oj.dst with
       | none => trivial
       | some d => rw [hd] at p3; show d < N; exact of_decide_eq_true p3
      ·have hn := hdisj p4 d hd
       have : ∀ x, x ∈ XN ops.toList o ++ o.dst.toList → d ≠ x := fun x hx e => hn (List.mem_flatMap.2 ⟨q, hq, by simp only [Array.getElem?_toList, ho]; rw [e]; exact hx⟩)
       refine ⟨fun hm => ?_, fun e => ?_⟩
       ·rw [← YY] at hm
        exact this d (List.mem_append_left _ hm) rfl
       ·exact this d (List.mem_append_right _ (by simp [e])) rfl
    | m => exact ⟨mres rfl rfl, fun h => by simp [DK.isW] at h⟩
    | q => exact ⟨mres rfl rfl, fun h => by simp [DK.isW] at h⟩
    | c => exact ⟨mres rfl rfl, fun h => by simp [DK.isW] at h⟩
  | q =>
    cases ki with
    | w inc' => simp at hp
    | a key' inc' => simp at hp
    | m => exact ⟨mres rfl rfl, fun h => by simp [DK.isW] at h⟩
    | q => exact ⟨mres rfl rfl, fun h => by simp [DK.isW] at h⟩
    | c => exact ⟨mres rfl rfl, fun h => by simp [DK.isW] at h⟩
  | c =>
    cases ki with
    | w inc' => simp at hp
    | a key' inc' => simp at hp
    | m => exact ⟨mres rfl rfl, fun h => by simp [DK.isW] at h⟩
    | q => exact ⟨mres rfl rfl, fun h => by simp [DK.isW] at h⟩
    | c => exact ⟨mres rfl rfl, fun h => by simp [DK.isW] at h⟩
 ·obtain ⟨oj, hoj⟩ := hop j kj hkj
  have hj := List.all_eq_true.1 h3 ((oj, kj), j) (XH _ _ _ (hzip j oj kj hoj hkj))
  simp only [Bool.and_eq_true] at hj
  cases kj with
  | m => simp [DK.inc] at hq
  | q => simp [DK.inc] at hq
  | c => simp [DK.inc] at hq
  | w inc =>
    have hb := List.all_eq_true.1 hj.1 q hq
    unfold incB at hb
    split at hb
    ·simp at hb
    ·rename_i oq hoq
     simp only [Bool.and_eq_true] at hb
     obtain ⟨⟨b1, b2⟩, b3⟩ := hb
     refine ⟨of_decide_eq_true b1, fun p hp hne hanc op oq' hop hoq' d hd => ?_⟩
     have hoq2 : oq' = oq := by
       rw [Array.getElem?_toList] at hoq
       rw [hoq'] at hoq; exact Option.some.inj hoq
     subst hoq2
     have := List.all_eq_true.1 b3 p (List.mem_range.2 hp)
     simp only [hanc, Bool.or_false, Bool.or_eq_true, beq_iff_eq, Array.getElem?_toList, hop] at this
     have h5 := this.resolve_left hne
     have hn := hdisj h5 d hd
     refine ⟨fun hm => hn (List.mem_append_left _ (by rw [YY]; exact hm)), fun e => hn (List.mem_append_right _ (by simp [e]))⟩
  | a key inc =>
    have hb := List.all_eq_true.1 hj.1 q hq
    unfold incB at hb
    split at hb
    ·simp at hb
    ·rename_i oq hoq
     simp only [Bool.and_eq_true] at hb
     obtain ⟨⟨b1, b2⟩, b3⟩ := hb
     refine ⟨of_decide_eq_true b1, fun p hp hne hanc op oq' hop hoq' d hd => ?_⟩
     have hoq2 : oq' = oq := by
       rw [Array.getElem?_toList] at hoq
       rw [hoq'] at hoq; exact Option.some.inj hoq
     subst hoq2
     have := List.all_eq_true.1 b3 p (List.mem_range.2 hp)
     simp only [hanc, Bool.or_false, Bool.or_eq_true, beq_iff_eq, Array.getElem?_toList, hop] at this
     have h5 := this.resolve_left hne
     have hn := hdisj h5 d hd
     refine ⟨fun hm => hn (List.mem_append_left _ (by rw [YY]; exact hm)), fun e => hn (List.mem_append_right _ (by simp [e]))⟩
theorem MB {ks : List DK} (hc : Checked ops N ks) {listed : Array Bool} (hcl : ∀ i o, ops[i]? = some o → listed.getD i true = true → ∀ e ∈ Yv o, listed.getD e true = true)
   (i : Nat) (o : Oper) (ho : ops[i]? = some o) (hi : ∀ e ∈ Yv o, listed.getD e true = true) (p : Nat) (hp : Y8 (ancs [] ops.toList) p i = true) : listed.getD p true = true := by
 induction i using Nat.strongRecOn generalizing o with
 | _ i ih =>
   obtain ⟨e, he, h⟩ := Uo ops.toList [] i o (by simpa using ho) (by simpa using hc.edges i o ho) p (by simpa [Y8] using hp)
   rcases h with rfl | h
   ·exact hi _ he
   ·have hlt := hc.edges i o ho e he
    have hsz : i < ops.size := by
      rcases Nat.lt_or_ge i ops.size with h | h
      ·exact h
      ·rw [Array.getElem?_eq_none h] at ho; simp at ho
    have hoe : ops[e]? = some (ops[e]'(by omega)) := Array.getElem?_eq_getElem (by omega)
    exact ih e hlt _ hoe (hcl e _ hoe (hi e he)) (by simpa [Y8] using h)
def item (ks : List DK) (i : Nat) : Nat × DK × List Nat := (i, ks.getD i .m, (ks.getD i .m).inc)
def rest (ops : Array Oper) (listed : Array Bool) : List Nat := (List.range ops.size).filter fun i => !listed.getD i true
theorem ready_eq {ks : List DK} (hc : Checked ops N ks) (listed : Array Bool) (hsz : listed.size = ops.size) (i : Nat) : i ∈ Region.ready .any ops listed ↔ i < ops.size ∧ listed.getD i true = false ∧ ∀ o, ops[i]? = some o → ∀ e ∈ Yv o, listed.getD e true = true := by
 unfold Region.ready
 rw [List.mem_filter, List.mem_range]
 refine and_congr_right fun hi => ?_
 have hoi : ops[i]? = some ops[i] := Array.getElem?_eq_getElem hi
 have hdef : ∀ e ∈ Yv ops[i], listed.getD e false = listed.getD e true := fun e he => by
   have := hc.edges i _ hoi e he
   simp [show e < listed.size by omega]
 rw [hoi]
 simp only [Option.map_some, Option.getD_some, Bool.and_eq_true, Bool.not_eq_true', Option.some.injEq]
 refine and_congr_right fun _ => ?_
 constructor
 ·rintro h o rfl e he
  unfold Yv at he
  obtain ⟨ed, hed, rfl⟩ := List.mem_map.1 he
  obtain ⟨hm, hbind⟩ := List.mem_filter.1 hed
  have := Array.all_eq_true_iff_forall_mem.1 h ed (by simpa using hm)
  rw [← hdef ed.on (List.mem_map.2 ⟨ed, List.mem_filter.2 ⟨hm, hbind⟩, rfl⟩)]
  simpa [hbind] using this
 ·intro h
  rw [Array.all_eq_true_iff_forall_mem]
  intro ed hm
  cases hb : Region.binds .any ed with
  | false => simp
  | true =>
    have hin : ed.on ∈ Yv ops[i] := List.mem_map.2 ⟨ed, List.mem_filter.2 ⟨by simpa using hm, hb⟩, rfl⟩
    rw [hdef _ hin]
    simpa using h _ rfl ed.on hin
theorem Mc {ks : List DK} (hc : Checked ops N ks) {Q : AEx → (Nat → AV) → Heap → Nat → Prop} (hpan : ∀ p T T' H n, Q (.pan p) T H n → Q (.pan p) T' H n) {ds : List Deferred} {c0 : Ctx} {H0 : Heap} {w0 : World} :
   ∀ (fuel : Nat) (listed : Array Bool), listed.size = ops.size → (rest ops listed).length = fuel → (∀ i o, ops[i]? = some o → listed.getD i true = true → ∀ e ∈ Yv o, listed.getD e true = true) →
     ∀ (c : Ctx) (w : World) (a : Act) (T : Nat → AV) (H : Heap) (n : Nat), Step c0 H0 w0 c H n w → Z4 c T a.tmps → a.tmps.size = N → a.defers = ds →
       drun P z N ops ((rest ops listed).map (item ks)) T H n Q → wpAny P .any ops (Qp N ds c0 H0 w0 Q) fuel listed a w
 | 0, listed, hsz, hlen, hcl, c, w, a, T, H, n, hst, hr, hN, hd, h => by
   have hnil : rest ops listed = [] := List.length_eq_zero_iff.1 hlen
   rw [hnil] at h
   refine ⟨?_, .normal, c, T, H, n, h, trivial, hst, hr, hN, hd⟩
   rw [List.eq_nil_iff_forall_not_mem]
   intro i hi
   obtain ⟨h1, h2, _⟩ := (ready_eq hc listed hsz i).1 hi
   have : i ∈ rest ops listed := List.mem_filter.2 ⟨List.mem_range.2 h1, by simp only [h2]; rfl⟩
   rw [hnil] at this; simp at this
 | fuel + 1, listed, hsz, hlen, hcl, c, w, a, T, H, n, hst, hr, hN, hd, h => by
   have hmem : ∀ i, i ∈ rest ops listed ↔ i < ops.size ∧ listed.getD i true = false := fun i => by
     unfold rest; rw [List.mem_filter, List.mem_range]; simp
   have hsorted : (rest ops listed).Pairwise (· < ·) := List.Pairwise.filter _ List.pairwise_lt_range
   refine ⟨fun hnone => ?_, fun i hi => ?_⟩
   ·-- the first that is left is ready
    exfalso
    cases hrest : rest ops listed with
    | nil => rw [hrest] at hlen; simp at hlen
    | cons i l =>
      obtain ⟨h1, h2⟩ := (hmem i).1 (by rw [hrest]; simp)
      have hready : i ∈ Region.ready .any ops listed := (ready_eq hc listed hsz i).2 ⟨h1, h2, fun o ho e he => by
        have hlt := hc.edges i o ho e he
        cases hle : listed.getD e true with
        | true => rfl
        | false =>
          have : e ∈ rest ops listed := (hmem e).2 ⟨by omega, hle⟩
          rw [hrest] at this hsorted
          rcases List.mem_cons.1 this with e1 | e1
          ·omega
          ·have := (List.pairwise_cons.1 hsorted).1 e e1; omega⟩
      rw [hnone] at hready; simp at hready
   ·obtain ⟨h1, h2, h3⟩ := (ready_eq hc listed hsz i).1 hi
    have hin : i ∈ rest ops listed := (hmem i).2 ⟨h1, h2⟩
    obtain ⟨pre, post, hsplit⟩ := List.append_of_mem hin
    have hoi : ops[i]? = some ops[i] := Array.getElem?_eq_getElem h1
    have hks : ∀ p, p < ops.size → ks[p]? = some (ks.getD p .m) := fun p hp => by
      have : p < ks.length := by rw [hc.len]; exact hp
      simp [List.getD, List.getElem?_eq_getElem this]
    rw [hsplit] at hsorted
    have hsort2 := List.pairwise_append.1 hsorted
    have hpre : ∀ p ∈ pre, p < i ∧ p < ops.size ∧ listed.getD p true = false := fun p hp => by
      have hpr : p ∈ rest ops listed := by rw [hsplit]; simp [hp]
      exact ⟨hsort2.2.2 p hp i (by simp), (hmem p).1 hpr⟩
    have hnanc : ∀ p ∈ pre, Y8 (ancs [] ops.toList) p i = false := fun p hp => by
      cases hh : Y8 (ancs [] ops.toList) p i with
      | false => rfl
      | true =>
        have := MB hc hcl i _ hoi (h3 _ hoi) p hh
        rw [(hpre p hp).2.2] at this; simp at this
    have hpairs : ∀ p ∈ pre, Qm ops N p (ks.getD p .m) i (ks.getD i .m) ∧ ((ks.getD i .m).isW = true → ks.getD p .m = .m ∨ p ∈ (ks.getD i .m).inc) := fun p hp =>
      hc.pair p i _ _ (hpre p hp).1 (hks p (hpre p hp).2.1) (hks i h1) (hnanc p hp)
    rw [hsplit, List.map_append, List.map_cons] at h
    obtain ⟨I', hstep⟩ := front hpan i (ks.getD i .m) (pre.map (item ks)).length (pre.map (item ks)) (ks.getD i .m).inc (post.map (item ks)) T H n rfl
      (fun p hp => by obtain ⟨x, hx, rfl⟩ := List.mem_map.1 hp; exact fun y hy => hy)
      (fun p hp => by obtain ⟨x, hx, rfl⟩ := List.mem_map.1 hp; exact (hpairs x hx).1)
      (fun hw p hp => by obtain ⟨x, hx, rfl⟩ := List.mem_map.1 hp; exact (hpairs x hx).2 hw)
      (by
        have e : (pre.map (item ks)).map (·.1) = pre := by simp [item, Function.comp_def]
        rw [e]; exact hsort2.1)
      (fun hw q hq p hp hne => by
        obtain ⟨x, hx, rfl⟩ := List.mem_map.1 hp
        simp only [item] at hne ⊢
        obtain ⟨hqi, hqa⟩ := hc.inc i _ (hks i h1) q hq
        cases hh : Y8 (ancs [] ops.toList) x q with
        | false => exact .inr (hqa x (hpre x hx).1 hne hh)
        | true =>
          left
          have hqs : q < ops.size := by omega
          have hoq : ops[q]? = some ops[q] := Array.getElem?_eq_getElem hqs
          have hql : listed.getD q true = false := by
            cases hl : listed.getD q true with
            | false => rfl
            | true =>
              have := MB hc hcl q _ hoq (hcl q _ hoq hl) x hh
              rw [(hpre x hx).2.2] at this; simp at this
          have hqr : q ∈ rest ops listed := (hmem q).2 ⟨hqs, hql⟩
          have hqpre : q ∈ pre := by
            rw [hsplit] at hqr
            rcases List.mem_append.1 hqr with h | h
            ·exact h
            ·rcases List.mem_cons.1 h with h | h
             ·omega
             ·have := (List.pairwise_cons.1 hsort2.2.1).1 q h; omega
          refine ⟨?_, List.mem_map.2 ⟨item ks q, List.mem_map.2 ⟨q, hqpre, rfl⟩, rfl⟩⟩
          have : ∀ (q : Nat) (o : Oper), ops[q]? = some o → ∀ x, Y8 (ancs [] ops.toList) x q = true → x < q := by
            intro q
            induction q using Nat.strongRecOn with
            | _ q ih =>
              intro o ho x hx
              obtain ⟨e, he, h⟩ := Uo ops.toList [] q o (by simpa using ho) (by simpa using hc.edges q o ho) x (by simpa [Y8] using hx)
              have hlt := hc.edges q o ho e he
              rcases h with rfl | h
              ·exact hlt
              ·have hqs' : q < ops.size := by
                 rcases Nat.lt_or_ge q ops.size with h | h
                 ·exact h
                 ·rw [Array.getElem?_eq_none h] at ho; simp at ho
               have := ih e hlt _ (Array.getElem?_eq_getElem (show e < ops.size by omega)) x (by simpa [Y8] using h)
               omega
          exact this q _ hoq x hh) h
    refine Ku hstep hst hr hN hd fun T' c' H' n' a' w' Y hst' hr' hN' hd' => ?_
    have hget : ∀ k, (listed.setIfInBounds i true).getD k true = if k = i then true else listed.getD k true := fun k => by
      simp only [Array.getD_eq_getD_getElem?, Array.getElem?_setIfInBounds]
      by_cases e : k = i
      ·subst e; simp [hsz, h1]
      ·simp [Ne.symm e, e]
    have hrest' : rest ops (listed.setIfInBounds i true) = pre ++ post := by
      have e1 : rest ops (listed.setIfInBounds i true) = (rest ops listed).filter (· != i) := by
        unfold rest
        rw [List.filter_filter]
        apply List.filter_congr
        intro k _
        rw [hget]
        by_cases e : k = i <;> simp [e]
      rw [e1, hsplit, List.filter_append, List.filter_cons]
      have ep : pre.filter (· != i) = pre := List.filter_eq_self.2 fun p hp => by have := (hpre p hp).1; simp; omega
      have eq : post.filter (· != i) = post := List.filter_eq_self.2 fun p hp => by have := (List.pairwise_cons.1 hsort2.2.1).1 p hp; simp; omega
      simp [ep, eq]
    have hlen' : (rest ops (listed.setIfInBounds i true)).length = fuel := by
      rw [hrest']
      rw [hsplit] at hlen
      simp at hlen ⊢; omega
    refine Mc hc hpan fuel _ (by simp [hsz]) hlen' (fun k o ho hk e he => ?_) c' w' a' T' H' n' hst' hr' hN' hd' ?_
    ·rw [hget] at hk ⊢
     split
     ·rfl
     ·by_cases ek : k = i
      ·subst ek
       exact h3 o ho e he
      ·rw [if_neg ek] at hk
       exact hcl k o ho hk e he
    ·rw [hrest', List.map_append]
     exact Y
theorem awp_draw0 {id : Nat} {l : List Oper} {T : Nat → AV} {H : Heap} {n : Nat} {Q : AEx → (Nat → AV) → Heap → Nat → Prop} (hm : P.follows .mixedOrders = true) (z : TypeId → AV) (ks : List DK)
   (hc : U4 l N ks = true) (hpan : ∀ p T T' H n, Q (.pan p) T H n → Q (.pan p) T' H n)
   (h : drun P z N l.toArray ((List.range l.length).map (item ks)) T H n Q) :
   awp P N (.region id l.toArray true) T H n Q := by
 intro c w a hs hr hN ds hd
 refine wp_region_any hm ?_
 have hst : Step c H w c H n { w with drawn := w.drawn + 1 } := Step.drew hs
 have hrest : rest l.toArray (Array.replicate l.toArray.size false) = List.range l.length := by
   unfold rest
   rw [List.filter_eq_self.2]
   ·simp
   ·intro i hi
    have hi : i < l.length := by simpa using hi
    simp [hi]
 refine Mc (P := P) (z := z) (Q := Q) (ops := l.toArray) (Kv (ops := l.toArray) (by simpa using hc)) hpan l.toArray.size (Array.replicate l.toArray.size false) (by simp) (by rw [hrest]; simp) ?_ c _ a T H n hst hr hN hd ?_
 ·intro i o ho hi
  have : i < l.length := by
    rcases Nat.lt_or_ge i l.length with h | h
    ·exact h
    ·rw [List.getElem?_toArray, List.getElem?_eq_none h] at ho; simp at ho
  simp [this] at hi
 ·rw [hrest]; exact h
theorem awp_draw {id : Nat} {l : List Oper} {y : Code} {T : Nat → AV} {H : Heap} {n : Nat} {Q : AEx → (Nat → AV) → Heap → Nat → Prop} (hm : P.follows .mixedOrders = true) (z : TypeId → AV) (live : List Nat) (ks : List DK)
   (hc : U4 l N ks = true) (hpan : ∀ p T T' H n, Q (.pan p) T H n → Q (.pan p) T' H n)
   (h : ∀ K : (Nat → AV) → Heap → Nat → Prop, (∀ T H n, awp P N y T H n Q → K T H n) → drun P z N l.toArray ((List.range l.length).map (item ks)) T H n (Yw (fun T' H' n' => K (tsel live T') H' n') Q)) :
   awp P N (.seq (.region id l.toArray true) y) T H n Q := by
 refine JK (Q := Q) ?_
 intro c w a hs hr hN ds hd
 refine wp_region_any hm ?_
 have hst : Step c H w c H n { w with drawn := w.drawn + 1 } := Step.drew hs
 have hrest : rest l.toArray (Array.replicate l.toArray.size false) = List.range l.length := by
   unfold rest
   rw [List.filter_eq_self.2]
   ·simp
   ·intro i hi
    have hi : i < l.length := by simpa using hi
    simp [hi]
 refine Mc (P := P) (z := z) (Q := Yw (fun T H n => awp P N y T H n Q) Q) (ops := l.toArray) (Kv (ops := l.toArray) (by simpa using hc)) (fun p T T' H n hq => hpan p T T' H n hq) l.toArray.size (Array.replicate l.toArray.size false) (by simp) (by rw [hrest]; simp) ?_ c _ a T H n hst hr hN hd ?_
 ·intro i o ho hi
  have : i < l.length := by
    rcases Nat.lt_or_ge i l.length with h | h
    ·exact h
    ·rw [List.getElem?_toArray, List.getElem?_eq_none h] at ho; simp at ho
  simp [this] at hi
 ·rw [hrest]
  have := h (fun T' H' n' => awp P N y T' H' n' Q) (fun _ _ _ h => h)
  have mono : ∀ (its : List (Nat × DK × List Nat)) (T : Nat → AV) (H : Heap) (n : Nat), drun P z N l.toArray its T H n (Yw (fun T' H' n' => awp P N y (tsel live T') H' n' Q) Q) →
      drun P z N l.toArray its T H n (Yw (fun T' H' n' => awp P N y T' H' n' Q) Q) := by
    intro its
    induction its with
    | nil => intro T H n hh; exact YR live hh
    | cons it its ih => intro T H n hh; obtain ⟨i, k, I⟩ := it; exact U3 (fun T H n h => ih T H n h) (fun p T H n h => h) hh
  exact mono _ _ _ _ this
end
end Go.Sx