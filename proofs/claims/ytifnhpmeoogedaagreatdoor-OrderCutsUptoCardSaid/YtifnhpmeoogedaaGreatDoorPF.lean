/- Own layer 'Sx', part U: functions that defer a call, and calls that are deferred and recover. Of every program; no condition. -/
import Derived.Test.YtifnhpmeoogedaaGreatDoorPE
import Derived.Recover
import Derived.Test.YtifnhpmeoogedaaGreatDoorPD
set_option linter.unusedSimpArgs false
set_option linter.unusedVariables false
namespace Go.Sx
open Go
section
variable {P : Program} {ops : Array Oper}
def Behind (K : Act → World → Prop) (R : Exit → Act → World → Prop) : Exit → Act → World → Prop
 | .normal, a, w => K a w
 | e, a, w => R e a w
theorem VZ {R : Exit → Act → World → Prop} {l2 : List Oper} : ∀ (l : List Oper) (a : Act) (w : World),
   wpList P ops (Behind (wpList P ops R l2) R) l a w → wpList P ops R (l ++ l2) a w
 | [], _, _, h => h
 | o :: l, a, w, h => by
   have ih := VZ (R := R) (l2 := l2) l
   rw [List.cons_append]
   unfold wpList at h ⊢
   split
   ·rename_i hw
    rw [if_pos hw] at h
    refine h.imp (fun h => ?_) (fun ⟨h1, a', w', h2⟩ => ⟨h1, a', w', h2⟩)
    unfold Oper.wp at h ⊢
    generalize (execOp a.eval o).run P w = r at *
    cases r with
    | ok nx w' =>
      cases nx <;> simp only [Oper.upon] at h ⊢ <;> first
        | exact ih _ _ h
        | exact Calls.mono h (fun e w'' he => by cases e <;> first | exact ih _ _ he | exact he | (obtain ⟨a', w', h2⟩ := he; exact ⟨a', w', h2⟩))
        | exact Rows.mono h (fun _ _ he => ih _ _ he)
        | exact h
    | halt x w' => cases x <;> simp only [Oper.upon] at h ⊢ <;> exact h
   ·rename_i hw
    rw [if_neg hw] at h
    exact ih _ _ h
def XC (P : Program) (ops : Array Oper) (Q : Exit → Act → List Frame → World → Prop) : List Oper → Act → List Frame → World → Prop
 | [], a, cs, w => Q .normal a cs w
 | o :: rest, a, cs, w =>
   if Region.wanted o (yielded ops a.tmps) then
     match (execOp a.eval o).run P w with
     | .ok .recover w' =>
       match recoverD cs with
       | some (v, cs') => XC P ops Q rest (a.put o.dst v) cs' w'
       | none => XC P ops Q rest (a.put o.dst .nilIface) cs w'
     | r => o.upon P a (fun a' w' => XC P ops Q rest a' cs w') (fun e a' w' => Q e a' cs w') r
   else XC P ops Q rest (a.put o.dst undef) cs w
theorem wpOpsS_eq {Q : Exit → Act → List Frame → World → Prop} (l : List Oper) : ∀ k, (∀ j, l[j]? = ops[k + j]?) → wpOpsS P ops Q (List.range' k l.length) = XC P ops Q l := by
 induction l with
 | nil => intro k _; funext a cs w; simp [wpOpsS, XC]
 | cons o l ih =>
   intro k h
   have h0 : ops[k]? = some o := by simpa using (h 0).symm
   have ih' := ih (k + 1) (fun j => by have := h (j + 1); simpa [Nat.add_assoc, Nat.add_comm 1 j] using this)
   funext a cs w
   simp only [List.length_cons, List.range'_succ, wpOpsS, h0, XC, ih']
   rfl
theorem KF {Q : Exit → Act → List Frame → World → Prop} {a : Act} {cs : List Frame} {w : World} {id : Nat} (h : XC P ops Q ops.toList a cs w) : (Code.region id ops false).wpS P Q a cs w :=
 wpS_region (by rw [List.range_eq_range', ← Array.length_toList, wpOpsS_eq ops.toList 0 (by simp)]; exact h)
theorem UL {Q : Exit → Act → List Frame → World → Prop} {l2 : List Oper} {cs : List Frame} (hQ : ∀ a w, ¬ Q .outgrown a cs w) : ∀ (l : List Oper) (a : Act) (w : World),
   wpList P ops (Behind (fun a w => XC P ops Q l2 a cs w) (fun e a w => Q e a cs w)) l a w → XC P ops Q (l ++ l2) a cs w
 | [], _, _, h => h
 | o :: l, a, w, h => by
   have ih := UL (Q := Q) (l2 := l2) hQ l
   rw [List.cons_append]
   unfold wpList at h
   unfold XC
   split
   ·rename_i hw
    rw [if_pos hw] at h
    rcases h with h | ⟨_, a', w', h2⟩
    ·unfold Oper.wp at h
     generalize (execOp a.eval o).run P w = r at *
     cases r with
     | ok nx w' =>
       cases nx <;> simp only [Oper.upon] at h ⊢ <;> first
         | exact ih _ _ h
         | exact Calls.mono h (fun e w'' he => by cases e <;> first | exact ih _ _ he | exact he | (obtain ⟨a', w', h2⟩ := he; exact (hQ _ _ h2).elim))
         | exact Rows.mono h (fun _ _ he => ih _ _ he)
         | exact h.elim
     | halt x w' => cases x <;> simp only [Oper.upon] at h ⊢ <;> first | exact h | exact h.elim
    ·exact (hQ _ _ h2).elim
   ·rename_i hw
    rw [if_neg hw] at h
    exact ih _ _ h
end
structure ADef where
 f : FuncId
 args : List AV
def Q3 (P : Program) (c : Ctx) (D : ADef) (ds : List Deferred) : Prop :=
 ∃ (d : Deferred) (cap : Array Value) (fn : Func) (vs : List Value), ds = [d] ∧ d.target = .fn (.func D.f) cap ∧ d.args ++ cap = vs.toArray ∧ RelT c D.args vs ∧
   P.funcs[D.f]? = some fn ∧ fn.body.isSome = true ∧ (fn.name == "runtime.NumGoroutine") = false
theorem Q3.mono {P : Program} {c c' : Ctx} (h : c.le c') {D : ADef} {ds : List Deferred} (hd : Q3 P c D ds) : Q3 P c' D ds := by
 obtain ⟨d, cap, fn, vs, h1, h2, h3, h4, h5⟩ := hd
 exact ⟨d, cap, fn, vs, h1, h2, h3, RelT.mono h _ _ h4, h5⟩
inductive Vl where
 | ret
 | pan (p : AV)
def WP (c : Ctx) : Vl → FrameMode → Prop
 | .ret, u => u = .returning
 | .pan p, u => ∃ v, u = .panicking [{ v, recovered := false }] ∧ Rel c p false [v]
def XV (P : Program) (f : FuncId) (args : List AV) (m : Vl) (H : Heap) (n : Nat) (K : Vl → Heap → Nat → Prop) : Prop :=
 ∀ (c : Ctx) (w : World) (vs : List Value) (u : FrameMode), Sim c H n w → RelT c args vs → WP c m u →
   CallsD P f vs.toArray u w fun e u' w' => (∃ v, e = .returned v) ∧ ∃ m' c' H' n', K m' H' n' ∧ Step c H w c' H' n' w' ∧ WP c' m' (settle u')
theorem XV.mono {P : Program} {f : FuncId} {args : List AV} {m : Vl} {H : Heap} {n : Nat} {K K' : Vl → Heap → Nat → Prop}
   (h : XV P f args m H n K) (hk : ∀ m H n, K m H n → K' m H n) : XV P f args m H n K' := fun c w vs u hs hr hm =>
 (h c w vs u hs hr hm).mono fun _ _ _ ⟨he, m', c', H', n', Y, hst⟩ => ⟨he, m', c', H', n', hk _ _ _ Y, hst⟩
def APostD (P : Program) (N : Nat) (c : Ctx) (H : Heap) (w : World) (Q0 : AEx → (Nat → AV) → Heap → Nat → Prop) (QD : ADef → AEx → (Nat → AV) → Heap → Nat → Prop) (e : Exit) (a' : Act) (w' : World) : Prop :=
 ∃ ae c' T' H' n', ZX c' ae e ∧ Step c H w c' H' n' w' ∧ Z4 c' T' a'.tmps ∧ a'.tmps.size = N ∧
   ((a'.defers = [] ∧ Q0 ae T' H' n') ∨ ∃ D, Q3 P c' D a'.defers ∧ QD D ae T' H' n')
def awpD (P : Program) (N : Nat) (code : Code) (T : Nat → AV) (H : Heap) (n : Nat) (Q0 : AEx → (Nat → AV) → Heap → Nat → Prop) (QD : ADef → AEx → (Nat → AV) → Heap → Nat → Prop) : Prop :=
 ∀ (c : Ctx) (w : World) (a : Act), Sim c H n w → Z4 c T a.tmps → a.tmps.size = N → a.defers = [] → code.wp P (APostD P N c H w Q0 QD) a w
section
variable {P : Program} {N : Nat} {T : Nat → AV} {H : Heap} {n : Nat} {Q0 : AEx → (Nat → AV) → Heap → Nat → Prop} {QD : ADef → AEx → (Nat → AV) → Heap → Nat → Prop}
theorem APostD.step {c c1 : Ctx} {H H1 : Heap} {n1 : Nat} {w w1 : World} (h : Step c H w c1 H1 n1 w1) {e : Exit} {a' : Act} {w' : World}
   (hp : APostD P N c1 H1 w1 Q0 QD e a' w') : APostD P N c H w Q0 QD e a' w' := by
 obtain ⟨ae, c', T', H', n', hm, hst, hr⟩ := hp
 exact ⟨ae, c', T', H', n', hm, h.trans hst, hr⟩
theorem awpD_seq {x y : Code} (h : awp P N x T H n (Yw (fun T H n => awpD P N y T H n Q0 QD) Q0)) : awpD P N (.seq x y) T H n Q0 QD := fun c w a hs hr hN hd => by
 refine wp_seq (Go.wp_mono (h c w a hs hr hN [] hd) ?_)
 rintro e a' w' ⟨ae, c', T', H', n', hQ, hm, hst, hr', hN', hd'⟩
 cases ae with
 | normal =>
   cases e <;> simp only [ZX] at hm
   simp only [Yw] at hQ
   show y.wp P _ a' w'
   exact Go.wp_mono (hQ c' w' a' hst.sim hr' hN' hd') fun e a2 w2 hp => hp.step hst
 | exit i =>
   cases e <;> simp only [ZX] at hm
   subst hm
   exact ⟨.exit i, c', T', H', n', rfl, hst, hr', hN', .inl ⟨hd', hQ⟩⟩
 | ret =>
   cases e <;> simp only [ZX] at hm
   exact ⟨.ret, c', T', H', n', trivial, hst, hr', hN', .inl ⟨hd', hQ⟩⟩
 | pan p =>
   cases e <;> simp only [ZX] at hm
   exact ⟨.pan p, c', T', H', n', hm, hst, hr', hN', .inl ⟨hd', hQ⟩⟩
theorem awpD_seq_k {x y : Code} (h : ∀ K : (Nat → AV) → Heap → Nat → Prop, (∀ T H n, awpD P N y T H n Q0 QD → K T H n) → awp P N x T H n (Yw K Q0)) : awpD P N (.seq x y) T H n Q0 QD :=
 awpD_seq (h _ fun _ _ _ h => h)
theorem awpD_sel (live : List Nat) {code : Code} (h : awpD P N code (tsel live T) H n Q0 QD) : awpD P N code T H n Q0 QD := fun c w a hs hr hN hd => h c w a hs (Lb live hr) hN hd
theorem awpD_reg {id : Nat} {l : List Oper} {y : Code} (z : TypeId → AV) (live : List Nat)
   (h : ∀ K : (Nat → AV) → Heap → Nat → Prop, (∀ T H n, awpD P N y T H n Q0 QD → K T H n) → erun P z N l.toArray l T H n (Yw (fun T' H' n' => K (tsel live T') H' n') Q0)) :
   awpD P N (.seq (.region id l.toArray false) y) T H n Q0 QD :=
 awpD_seq (Q7 z (by simpa using h (fun T' H' n' => awpD P N y T' H' n' Q0 QD) (fun _ _ _ h => h)) |>.mono fun e T' H' n' hq => by
   cases e <;> first | exact awpD_sel live hq | exact hq)
def Me (P : Program) (fv : AV) (args : List AV) (k : ADef → Prop) : Prop :=
 match fv with
 | .fn (.func f) first captured => (∃ fn : Func, P.funcs[f]? = some fn ∧ fn.body.isSome = true ∧ (fn.name == "runtime.NumGoroutine") = false) ∧ k ⟨f, first ++ args ++ captured⟩
 | _ => False
theorem deferK_use {f : FuncId} {fn : Func} {first captured args args' : List AV} {k : ADef → Prop} (hf : P.funcs[f]? = some fn) (hb : fn.body.isSome = true) (hn : (fn.name == "runtime.NumGoroutine") = false)
 (ha : first ++ args ++ captured = args') (hk : k ⟨f, args'⟩) : Me P (.fn (.func f) first captured) args k := ⟨⟨fn, hf, hb, hn⟩, ha ▸ hk⟩
theorem awpD_defer {id : Nat} {pre post : List Oper} {dst : Option Tmp} {fo : Operand} {dargs : List Operand} {ts : Array TypeId} {ty : TypeId} {pos : String} {after : Array Edge} {l : List Oper} {y : Code} (z : TypeId → AV) (live : List Nat)
   (hl : l = pre ++ ⟨dst, .defer ⟨.value fo, dargs.toArray, ts⟩, ty, pos, after, none⟩ :: post) (hdst : dOK N dst)
   (h : ∀ K : ADef → (Nat → AV) → Heap → Nat → Prop, (∀ D T H n, awp P N y T H n (QD D) → K D T H n) →
     erun P z N l.toArray pre T H n (Yw (fun T1 H1 n1 => Me P (evO T1 fo) (dargs.map (evO T1)) fun D =>
       erun P z N l.toArray post (tput T1 dst .junk) H1 n1 (Yw (fun T2 H2 n2 => K D (tsel live T2) H2 n2) (QD D))) fun _ _ _ _ => False)) :
   awpD P N (.seq (.region id l.toArray false) y) T H n Q0 QD := fun c w a hs hr hN hd => by
 have h := h (fun D T H n => awp P N y T H n (QD D)) (fun _ _ _ _ h => h)
 refine wp_seq (wp_region_list ?_)
 show wpList P l.toArray _ l.toArray.toList a w
 rw [show l.toArray.toList = pre ++ ⟨dst, .defer ⟨.value fo, dargs.toArray, ts⟩, ty, pos, after, none⟩ :: post from hl]
 refine VZ pre a w (Xn ?_ pre a w (Yr _ _ _ _ h c w a hs hr hN [] hd))
 rintro e a1 w1 ⟨ae, c1, T1, H1, n1, hQ, hm, hst1, hr1, hN1, hd1⟩
 cases ae with
 | normal =>
   cases e <;> simp only [ZX] at hm
   simp only [Yw] at hQ
   generalize hfo : evO T1 fo = fv at hQ
   cases fv <;> simp only [Me] at hQ
   rename_i f first captured
   cases f <;> simp only at hQ
   rename_i f
   obtain ⟨⟨fn, hfn, hbody, hname⟩, hk⟩ := hQ
   have hf := Uy hr1 fo
   rw [hfo] at hf
   simp only [Rel, List.cons.injEq, and_true] at hf
   obtain ⟨fv, cv, ef, hf1, hf2⟩ := hf
   have hargs : RelT c1 (dargs.map (evO T1)) (dargs.map a1.eval) := RelT.of_map dargs fun x _ => Uy hr1 x
   show wpList P l.toArray _ (_ :: post) a1 w1
   unfold wpList
   rw [if_pos (XI rfl)]
   left
   have hrun : (execOp a1.eval ⟨dst, .defer ⟨.value fo, dargs.toArray, ts⟩, ty, pos, after, none⟩).run P w1 = .ok (.defer { target := .fn (.func f) cv, args := fv ++ (dargs.map a1.eval).toArray }) w1 := by
     simp [execOp, resolve, ef, Deferred.ofValue]
   unfold Oper.wp
   rw [hrun]
   simp only [Oper.upon]
   have hd' : ∀ d, dst = some d → d < a1.tmps.size := fun d hd2 => by rw [hd2] at hdst; rw [hN1]; exact hdst
   have hD : Q3 P c1 ⟨f, first ++ dargs.map (evO T1) ++ captured⟩ [{ target := .fn (.func f) cv, args := fv ++ (dargs.map a1.eval).toArray }] :=
     ⟨_, cv, fn, fv.toList ++ dargs.map a1.eval ++ cv.toList, rfl, rfl, by simp, RelT.append.2 ⟨_, _, rfl, RelT.append.2 ⟨_, _, rfl, hf1, hargs⟩, hf2⟩, hfn, hbody, hname⟩
   have hrun2 := Yr _ _ _ _ hk c1 w1 (({ a1 with defers := { target := .fn (.func f) cv, args := fv ++ (dargs.map a1.eval).toArray } :: a1.defers } : Act).put dst undef) hst1.sim
     (X0 (a := { a1 with defers := { target := .fn (.func f) cv, args := fv ++ (dargs.map a1.eval).toArray } :: a1.defers }) hr1 (r := .junk) (v := undef) (by simp [Rel]) hd') (by rw [X7]; exact hN1) [{ target := .fn (.func f) cv, args := fv ++ (dargs.map a1.eval).toArray }] (by rw [YW]; simp [hd1])
   refine Xn ?_ post _ _ hrun2
   rintro e a2 w2 ⟨ae, c2, T2, H2, n2, hQ2, hm2, hst2, hr2, hN2, hd2⟩
   have hD2 : ∀ (c3 : Ctx) (a3 : Act), c2.le c3 → a3.defers = [{ target := .fn (.func f) cv, args := fv ++ (dargs.map a1.eval).toArray }] → Q3 P c3 ⟨f, first ++ dargs.map (evO T1) ++ captured⟩ a3.defers := fun c3 a3 hle h3 => by
     rw [h3]; exact (hD.mono hst2.le).mono hle
   cases ae with
   | normal =>
     cases e <;> simp only [ZX] at hm2
     simp only [Yw] at hQ2
     show y.wp P _ a2 w2
     refine Go.wp_mono (YR live hQ2 c2 w2 a2 hst2.sim hr2 hN2 _ hd2) ?_
     rintro e a3 w3 ⟨ae, c3, T3, H3, n3, hQ3, hm3, hst3, hr3, hN3, hd3⟩
     exact ⟨ae, c3, T3, H3, n3, hm3, (hst1.trans hst2).trans hst3, hr3, hN3, .inr ⟨_, hD2 c3 a3 hst3.le hd3, hQ3⟩⟩
   | exit i =>
     cases e <;> simp only [ZX] at hm2
     subst hm2
     exact ⟨.exit i, c2, T2, H2, n2, rfl, hst1.trans hst2, hr2, hN2, .inr ⟨_, hD2 c2 a2 (.refl _) hd2, hQ2⟩⟩
   | ret =>
     cases e <;> simp only [ZX] at hm2
     exact ⟨.ret, c2, T2, H2, n2, trivial, hst1.trans hst2, hr2, hN2, .inr ⟨_, hD2 c2 a2 (.refl _) hd2, hQ2⟩⟩
   | pan p =>
     cases e <;> simp only [ZX] at hm2
     exact ⟨.pan p, c2, T2, H2, n2, hm2, hst1.trans hst2, hr2, hN2, .inr ⟨_, hD2 c2 a2 (.refl _) hd2, hQ2⟩⟩
 | exit i => exact hQ.elim
 | ret => exact hQ.elim
 | pan p => exact hQ.elim
end
def FinA (P : Program) (rs : List ResultVar) (K : ARes → Heap → Nat → Prop) (T : Nat → AV) : Vl → Heap → Nat → Prop
 | .ret, H', n' => U5 (resC P H' T rs) fun l => K (.val (resV l)) H' n'
 | .pan p, H', n' => K (.pan p) H' n'
def FinD (P : Program) (rs : List ResultVar) (K : ARes → Heap → Nat → Prop) (D : ADef) : AEx → (Nat → AV) → Heap → Nat → Prop
 | .normal, T, H, n => XV P D.f D.args .ret H n (FinA P rs K T)
 | .ret, T, H, n => XV P D.f D.args .ret H n (FinA P rs K T)
 | .pan p, T, H, n => XV P D.f D.args (.pan p) H n (FinA P rs K T)
 | .exit _, _, _, _ => False
theorem args_rel {c : Ctx} {args : List AV} {vs : List Value} {N : Nat} (hr : RelT c args vs) (hlen : args.length ≤ N) :
   Z4 c (argT args) (vs.toArray ++ Array.replicate (N - vs.toArray.size) undef) ∧ (vs.toArray ++ Array.replicate (N - vs.toArray.size) undef).size = N := by
 have hl : vs.length = args.length := by
   clear hlen
   induction args generalizing vs with
   | nil => simp only [RelT] at hr; subst hr; rfl
   | cons x xs ih =>
     simp only [RelT] at hr
     obtain ⟨v, r, rfl, _, h2⟩ := hr
     simp [ih h2]
 refine ⟨fun t => ?_, by simp; omega⟩
 rcases Nat.lt_or_ge t args.length with ht | ht
 ·obtain ⟨v, hv, hrel⟩ := RelT.nth hr (List.getElem?_eq_getElem ht)
  have e : (vs.toArray ++ Array.replicate (N - vs.toArray.size) undef).getD t undef = v := by
    rw [Array.getD_eq_getD_getElem?, Array.getElem?_append_left (by simpa [hl] using ht)]
    simp [hv]
  rw [e]
  simpa [argT, List.getD, List.getElem?_eq_getElem ht] using hrel
 ·have : argT args t = .junk := by simp [argT, List.getD, List.getElem?_eq_none ht]
  rw [this]
  simp [Rel]
theorem Ql {P : Program} {f : FuncId} {fn : Func} {code : Code} {args : List AV} {H : Heap} {n N : Nat} {rs : List ResultVar} {K : ARes → Heap → Nat → Prop}
   (hf : P.funcs[f]? = some fn) (hb : fn.body = some code) (hN : fn.ntmps = N) (hrs : fn.results.toList = rs) (hlen : args.length ≤ N) (h : awpD P N code (tl (argL 0 args)) H n (Fin P rs K) (FinD P rs K)) : Zx P f args H n K := fun c w vs hs hr => by
 rw [Mt] at h
 subst hN
 subst hrs
 obtain ⟨ha1, ha2⟩ := args_rel hr hlen
 refine calls_of_wp_defers hf hb (Go.wp_mono (h c w ⟨vs.toArray ++ Array.replicate (fn.ntmps - vs.toArray.size) undef, []⟩ hs ha1 ha2 rfl) ?_)
 rintro e a' w' ⟨ae, c', T', H', n', hm, hst, hr', _, hq⟩
 have fin : ∀ {c2 : Ctx} {H2 : Heap} {n2 : Nat} {w2 : World}, Step c H w c2 H2 n2 w2 → c'.le c2 → ∀ (x : Option (Prop × List AV)), x = resC P H2 T' fn.results.toList → U5 x (fun l => K (.val (resV l)) H2 n2) →
     ∃ v, (results fn a'.tmps).run P w2 = .ok v w2 ∧ ∃ res c' H' n', K res H' n' ∧ Step c H w c' H' n' w2 ∧
       match Ending.returned v, res with
       | .returned v, .val r => Rel c' r false [v]
       | .panicked ch, .pan p => ∃ v, ch = [{ v, recovered := false }] ∧ Rel c' p false [v]
       | _, _ => False := fun {c2 H2 n2 w2} hst2 hle x hx hc => by
   cases x with
   | none => exact hc.elim
   | some p =>
     obtain ⟨C, l⟩ := p
     obtain ⟨hC, Y⟩ := hc
     obtain ⟨v, hv, hrel⟩ := UU hst2.sim (Z4.mono hle hr') hx.symm hC
     exact ⟨v, hv, .val _, c2, H2, n2, Y, hst2, hrel⟩
 have go : ∀ (D : ADef) (m : Vl) (u : FrameMode), Q3 P c' D a'.defers → WP c' m u → u ≠ .run →
     XV P D.f D.args m H' n' (FinA P fn.results.toList K T') →
     Leaves P fn a'.tmps (fun e w' => ∃ res c' H' n', K res H' n' ∧ Step c H w c' H' n' w' ∧ match e, res with
       | .returned v, .val r => Rel c' r false [v]
       | .panicked ch, .pan p => ∃ v, ch = [{ v, recovered := false }] ∧ Rel c' p false [v]
       | _, _ => False) a'.defers u w' := fun D m u hD hmo hu hcall => by
   obtain ⟨d, cap, gf, vs2, hds, htar, hvs, hrel, hfn, hbody, hname⟩ := hD
   rw [hds]
   obtain ⟨t, dargs⟩ := d
   simp only at htar hvs
   subst htar
   refine leaves_cons hu (f := D.f) (args := vs2.toArray) ?_ ?_
   ·have hbn : gf.body.isNone = false := by cases hh : gf.body <;> simp_all
    simp only [invoke, hvs, callFunc, run_program, Sem.run_bind, Result.andThen_ok, hfn, hname, hbn]
    simp
   ·refine (hcall c' w' vs2 u hst.sim hrel hmo).mono ?_
    rintro e u' w2 ⟨⟨v, rfl⟩, m', c2, H2, n2, Y, hst2, hmo2⟩
    show Leaves P fn a'.tmps _ [] (settle u') w2
    cases m' with
    | ret =>
      simp only [WP] at hmo2
      rw [hmo2]
      exact fin (hst.trans hst2) hst2.le _ rfl Y
    | pan p =>
      simp only [WP] at hmo2
      obtain ⟨v2, hu2, hv2⟩ := hmo2
      rw [hu2]
      exact ⟨.pan p, c2, H2, n2, Y, hst.trans hst2, v2, rfl, hv2⟩
 rcases hq with ⟨hd0, hQ⟩ | ⟨D, hD, hQ⟩
 ·cases ae with
  | normal =>
    cases e <;> simp only [ZX] at hm
    show Leaves P fn a'.tmps _ a'.defers .returning w'
    rw [hd0]
    exact fin hst (.refl _) _ rfl hQ
  | ret =>
    cases e <;> simp only [ZX] at hm
    show Leaves P fn a'.tmps _ a'.defers .returning w'
    rw [hd0]
    exact fin hst (.refl _) _ rfl hQ
  | exit i => exact hQ.elim
  | pan p =>
    cases e <;> simp only [ZX] at hm
    rename_i ch
    show Leaves P fn a'.tmps _ a'.defers (.panicking ch) w'
    rw [hd0]
    exact ⟨.pan p, c', H', n', hQ, hst, hm⟩
 ·cases ae with
  | normal =>
    cases e <;> simp only [ZX] at hm
    exact go D .ret .returning hD rfl (by simp) hQ
  | ret =>
    cases e <;> simp only [ZX] at hm
    exact go D .ret .returning hD rfl (by simp) hQ
  | exit i => exact hQ.elim
  | pan p =>
    cases e <;> simp only [ZX] at hm
    rename_i ch
    exact go D (.pan p) (.panicking ch) hD (by obtain ⟨v, rfl, hv⟩ := hm; exact ⟨v, rfl, hv⟩) (by simp) hQ
def Vl.got : Vl → AV
 | .ret => .nili
 | .pan p => p
def FinS (P : Program) (rs : List ResultVar) (K : Heap → Nat → Prop) : AEx → (Nat → AV) → Heap → Nat → Prop
 | .normal, T, H, n => U5 (resC P H T rs) fun _ => K H n
 | .ret, T, H, n => U5 (resC P H T rs) fun _ => K H n
 | _, _, _, _ => False
theorem acallsD_of {P : Program} {f : FuncId} {fn : Func} {args : List AV} {H : Heap} {n N : Nat} {rs : List ResultVar} {m : Vl} {K : Vl → Heap → Nat → Prop}
   {id : Nat} {pre post : List Oper} {dst : Option Tmp} {ts : Array TypeId} {ty : TypeId} {pos : String} {after : Array Edge} {l : List Oper} {y : Code} (z : TypeId → AV) (live : List Nat)
   (hf : P.funcs[f]? = some fn) (hb : fn.body = some (.seq (.region id l.toArray false) y)) (hN : fn.ntmps = N) (hrs : fn.results.toList = rs) (hlen : args.length ≤ N)
   (hl : l = pre ++ ⟨dst, .call ⟨.builtin .recover, #[], ts⟩, ty, pos, after, none⟩ :: post) (hdst : dOK N dst)
   (h : ∀ J : (Nat → AV) → Heap → Nat → Prop, (∀ T H n, awp P N y T H n (FinS P rs (K .ret)) → J T H n) →
     erun P z N l.toArray pre (tl (argL 0 args)) H n (Yw (fun T1 H1 n1 => erun P z N l.toArray post (tput T1 dst m.got) H1 n1 (Yw (fun T2 H2 n2 => J (tsel live T2) H2 n2) fun _ _ _ _ => False)) fun _ _ _ _ => False)) :
   XV P f args m H n K := fun c w vs u hs hr hmo => by
 have h := h (fun T H n => awp P N y T H n (FinS P rs (K .ret))) (fun _ _ _ h => h)
 rw [Mt] at h
 subst hN
 subst hrs
 obtain ⟨ha1, ha2⟩ := args_rel hr hlen
 refine callsD_of_wpS hf hb fun c0 cs hc0 => ?_
 have hc0' : ({ c0 with mode := u } : Frame) = c0 := by subst hc0; rfl
 refine wpS_seq (KF ?_)
 rw [show l.toArray.toList = pre ++ ⟨dst, .call ⟨.builtin .recover, #[], ts⟩, ty, pos, after, none⟩ :: post from hl]
 have noOut : ∀ (cs2 : List Frame) (a : Act) (w' : World), ¬ Exit.thenS (y.wpS P (bodyPostS P fn c0 cs fun e u' w' => (∃ v, e = .returned v) ∧ ∃ m' c' H' n', K m' H' n' ∧ Step c H w c' H' n' w' ∧ WP c' m' (settle u'))) (bodyPostS P fn c0 cs fun e u' w' => (∃ v, e = .returned v) ∧ ∃ m' c' H' n', K m' H' n' ∧ Step c H w c' H' n' w' ∧ WP c' m' (settle u')) .outgrown a cs2 w' := by
   rintro cs2 a w' ⟨u', ⟨v, hv⟩, _⟩
   cases hv
 refine UL (noOut _) pre _ w (Xn ?_ pre _ w (Yr _ _ _ _ h c w ⟨vs.toArray ++ Array.replicate (fn.ntmps - vs.toArray.size) undef, []⟩ hs ha1 ha2 [] rfl))
 rintro e a1 w1 ⟨ae, c1, T1, H1, n1, hQ, hm, hst1, hr1, hN1, hd1⟩
 cases ae with
 | normal =>
   cases e <;> simp only [ZX] at hm
   simp only [Yw] at hQ
   have hd' : ∀ d, dst = some d → d < a1.tmps.size := fun d hd2 => by rw [hd2] at hdst; rw [hN1]; exact hdst
   have cont : ∀ (u2 : FrameMode) (v2 : Value), Rel c1 m.got false [v2] → settle u2 = .returning →
       XC P l.toArray (Exit.thenS (y.wpS P (bodyPostS P fn c0 cs fun e u' w' => (∃ v, e = .returned v) ∧ ∃ m' c' H' n', K m' H' n' ∧ Step c H w c' H' n' w' ∧ WP c' m' (settle u'))) (bodyPostS P fn c0 cs fun e u' w' => (∃ v, e = .returned v) ∧ ∃ m' c' H' n', K m' H' n' ∧ Step c H w c' H' n' w' ∧ WP c' m' (settle u'))) post (a1.put dst v2) ({ c0 with mode := u2 } :: cs) w1 := fun u2 v2 hv2 hu2 => by
     have hrun := Yr _ _ _ _ hQ c1 w1 (a1.put dst v2) hst1.sim (X0 hr1 hv2 hd') (by rw [X7, hN1]) [] (by rw [YW, hd1])
     rw [← List.append_nil post]
     refine UL (noOut _) post _ w1 (Xn ?_ post _ w1 hrun)
     rintro e a2 w2 ⟨ae, c2, T2, H2, n2, hQ2, hm2, hst2, hr2, hN2, hd2⟩
     cases ae with
     | normal =>
       cases e <;> simp only [ZX] at hm2
       simp only [Yw] at hQ2
       show y.wpS P _ a2 _ w2
       refine wpS_of_wp (Go.wp_mono (YR live hQ2 c2 w2 a2 hst2.sim hr2 hN2 [] hd2) ?_)
       rintro e a3 w3 ⟨ae, c3, T3, H3, n3, hQ3, hm3, hst3, hr3, hN3, hd3⟩
       have fin : ∀ (x : Option (Prop × List AV)), x = resC P H3 T3 fn.results.toList → U5 x (fun _ => K .ret H3 n3) →
           a3.defers = [] ∧ ∃ u', ({ c0 with mode := u2 } :: cs : List Frame) = { c0 with mode := u' } :: cs ∧ ∃ v, (results fn a3.tmps).run P w3 = .ok v w3 ∧ (∃ v', Ending.returned v = .returned v') ∧ ∃ m' c' H' n', K m' H' n' ∧ Step c H w c' H' n' w3 ∧ WP c' m' (settle u') := fun x hx hc => by
         cases x with
         | none => exact hc.elim
         | some p =>
           obtain ⟨C, lr⟩ := p
           obtain ⟨hC, Y⟩ := hc
           obtain ⟨v, hv, _⟩ := UU hst3.sim hr3 hx.symm hC
           exact ⟨hd3, u2, rfl, v, hv, ⟨v, rfl⟩, .ret, c3, H3, n3, Y, (hst1.trans hst2).trans hst3, hu2⟩
       cases ae with
       | normal =>
         cases e <;> simp only [ZX] at hm3
         exact fin _ rfl hQ3
       | ret =>
         cases e <;> simp only [ZX] at hm3
         exact fin _ rfl hQ3
       | exit i => exact hQ3.elim
       | pan p => exact hQ3.elim
     | exit i => exact hQ2.elim
     | ret => exact hQ2.elim
     | pan p => exact hQ2.elim
   show XC P l.toArray _ (_ :: post) a1 (c0 :: cs) w1
   unfold XC
   rw [if_pos (XI rfl)]
   have hrun : (execOp a1.eval ⟨dst, .call ⟨.builtin .recover, #[], ts⟩, ty, pos, after, none⟩).run P w1 = .ok .recover w1 := by
     simp [execOp, resolve, invoke, builtin]
   rw [hrun]
   cases m with
   | ret =>
     have hu : u = .returning := hmo
     have hrec : recoverD (c0 :: cs) = none := by simp [recoverD, hc0, hu]
     simp only [hrec]
     have := cont u .nilIface (by simp [Vl.got, Rel]) (by rw [hu]; rfl)
     rw [hc0'] at this
     exact this
   | pan p =>
     obtain ⟨v, hu, hv⟩ := hmo
     have hrec : recoverD (c0 :: cs) = some (v, { c0 with mode := .panicking [{ v, recovered := true }] } :: cs) := by simp [recoverD, hc0, hu]
     simp only [hrec]
     exact cont _ v (Rel.mono hst1.le _ _ _ hv) rfl
 | exit i => exact hQ.elim
 | ret => exact hQ.elim
 | pan p => exact hQ.elim
theorem opSplit {l : List Oper} {k : Nat} {o : Oper} (h : opAt l k = some o) : l = l.take k ++ o :: l.drop (k + 1) := by
 rw [opAt_eq] at h
 have hlt : k < l.length := by
   rcases Nat.lt_or_ge k l.length with h' | h'
   ·exact h'
   ·rw [List.getElem?_eq_none h'] at h; simp at h
 have e : l[k] = o := by rw [List.getElem?_eq_getElem hlt] at h; exact Option.some.inj h
 rw [← e, ← List.drop_eq_getElem_cons hlt, List.take_append_drop]
section
variable {P : Program} {N : Nat} {T : Nat → AV} {H : Heap} {n : Nat} {Q : AEx → (Nat → AV) → Heap → Nat → Prop} {Q0 : AEx → (Nat → AV) → Heap → Nat → Prop} {QD : ADef → AEx → (Nat → AV) → Heap → Nat → Prop}
theorem awpD_def {id : Nat} {dst : Option Tmp} {fo : Operand} {dargs : List Operand} {ts : Array TypeId} {ty : TypeId} {pos : String} {after : Array Edge} {l : List Oper} {y : Code} (z : TypeId → AV) (live : List Nat) (k : Nat)
 (hl : opAt l k = some ⟨dst, .defer ⟨.value fo, dargs.toArray, ts⟩, ty, pos, after, none⟩) (hdst : dOK N dst)
 (h : ∀ K : ADef → (Nat → AV) → Heap → Nat → Prop, (∀ D T H n, awp P N y T H n (QD D) → K D T H n) →
   erun P z N l.toArray (l.take k) T H n (Yw (fun T1 H1 n1 => Me P (evO T1 fo) (dargs.map (evO T1)) fun D =>
     erun P z N l.toArray (l.drop (k + 1)) (tput T1 dst .junk) H1 n1 (Yw (fun T2 H2 n2 => K D (tsel live T2) H2 n2) (QD D))) fun _ _ _ _ => False)) :
 awpD P N (.seq (.region id l.toArray false) y) T H n Q0 QD := awpD_defer z live (opSplit hl) hdst h
def panK : AV → (AV → Prop) → Prop
 | .iface t v, k => k (.iface t v)
 | _, _ => False
theorem panK_iface (t : TypeId) (v : AV) (k : AV → Prop) : panK (.iface t v) k = k (.iface t v) := rfl
theorem ot_panic {dst : Option Tmp} {x : Operand} {ty : TypeId} {pos : String} {after : Array Edge} {guard : Option (Nat × Bool)} {ε : Operand → AV} {K : ARes → Heap → Nat → Prop}
   (h : panK (ε x) fun p => K (.pan p) H n) : OpT P ⟨dst, .panic x, ty, pos, after, guard⟩ ε H n K := fun c w a hs hr next Q' hn hp => by
 have hx := hr x (by simp [Op.operands])
 generalize hε : ε x = av at h hx
 cases av <;> simp only [panK] at h
 rename_i t v
 have hx' := hx
 simp only [Rel, List.cons.injEq, and_true] at hx
 obtain ⟨xv, ev, _⟩ := hx
 unfold Oper.wp
 have hrun : (execOp a.eval ⟨dst, .panic x, ty, pos, after, guard⟩).run P w = .halt (.panic (a.eval x)) w := by
   simp [execOp, ev, Instr.panic, goPanic]
 rw [hrun]
 exact hp _ _ c H n w h (.refl hs) hx'
theorem lrun_panic {ops : Array Oper} {l : List Oper} (z : TypeId → AV) (k : Nat) {dst : Option Tmp} {x : Operand} {ty : TypeId} {pos : String} {after : Array Edge} (hl : opAt l k = some ⟨dst, .panic x, ty, pos, after, none⟩) (hdst : dOK N dst)
   (h : erun P z N ops (l.take k) T H n (Yw (fun T1 H1 n1 => panK (evO T1 x) fun p => Q (.pan p) T1 H1 n1) Q)) : lrun P N ops l T H n Q := fun c w a hs hr hN ds hd => by
 rw [opSplit hl]
 refine VZ _ a w (Xn ?_ _ a w (Yr _ _ _ _ h c w a hs hr hN ds hd))
 rintro e a1 w1 ⟨ae, c1, T1, H1, n1, hQ, hm, hst1, hr1, hN1, hd1⟩
 cases ae with
 | normal =>
   cases e <;> simp only [ZX] at hm
   simp only [Yw] at hQ
   refine Xn (fun e a w hp => hp.step hst1) _ _ _ (WI (T := T1) (H := H1) (n := n1) (Q := Q) (ε := evO T1) (k := fun _ _ _ => False) (kp := fun p H n => Q (.pan p) T1 H n) hdst ((ot_panic (K := fun res H' n' => match res with | .val _ => False | .pan p => Q (.pan p) T1 H' n') hQ).mono fun r H n hk => by cases r <;> exact hk) hst1.sim hr1 hN1 hd1 (XI rfl) (fun x _ => Uy hr1 x) id (fun _ _ _ h => h) (fun _ _ _ h => h.elim) (fun _ _ _ h => h))
 | exit i =>
   cases e <;> simp only [ZX] at hm
   subst hm
   exact ⟨.exit i, c1, T1, H1, n1, hQ, rfl, hst1, hr1, hN1, hd1⟩
 | ret =>
   cases e <;> simp only [ZX] at hm
   exact ⟨.ret, c1, T1, H1, n1, hQ, trivial, hst1, hr1, hN1, hd1⟩
 | pan p =>
   cases e <;> simp only [ZX] at hm
   exact ⟨.pan p, c1, T1, H1, n1, hQ, hm, hst1, hr1, hN1, hd1⟩
theorem VM {id : Nat} {l : List Oper} (z : TypeId → AV) (k : Nat) {dst : Option Tmp} {x : Operand} {ty : TypeId} {pos : String} {after : Array Edge} (hl : opAt l k = some ⟨dst, .panic x, ty, pos, after, none⟩) (hdst : dOK N dst)
   (h : erun P z N l.toArray (l.take k) T H n (Yw (fun T1 H1 n1 => panK (evO T1 x) fun p => Q (.pan p) T1 H1 n1) Q)) : awp P N (.region id l.toArray false) T H n Q :=
 fun c w a hs hr hN ds hd => wp_region_list (by simpa using lrun_panic z k hl hdst h c w a hs hr hN ds hd)
end
theorem UG {P : Program} {f : FuncId} {fn : Func} {args : List AV} {H : Heap} {n N : Nat} {rs : List ResultVar} {m : Vl} {K : Vl → Heap → Nat → Prop}
 {id : Nat} {dst : Option Tmp} {ts : Array TypeId} {ty : TypeId} {pos : String} {after : Array Edge} {l : List Oper} {y : Code} (z : TypeId → AV) (live : List Nat) (k : Nat)
 (hf : P.funcs[f]? = some fn) (hb : fn.body = some (.seq (.region id l.toArray false) y)) (hN : fn.ntmps = N) (hrs : fn.results.toList = rs) (hlen : args.length ≤ N)
 (hl : opAt l k = some ⟨dst, .call ⟨.builtin .recover, #[], ts⟩, ty, pos, after, none⟩) (hdst : dOK N dst)
 (h : ∀ J : (Nat → AV) → Heap → Nat → Prop, (∀ T H n, awp P N y T H n (FinS P rs (K .ret)) → J T H n) →
   erun P z N l.toArray (l.take k) (tl (argL 0 args)) H n (Yw (fun T1 H1 n1 => erun P z N l.toArray (l.drop (k + 1)) (tput T1 dst m.got) H1 n1 (Yw (fun T2 H2 n2 => J (tsel live T2) H2 n2) fun _ _ _ _ => False)) fun _ _ _ _ => False)) :
 XV P f args m H n K := acallsD_of z live hf hb hN hrs hlen (opSplit hl) hdst h
attribute [go_sem] FinA.eq_1 FinA.eq_2 FinD.eq_1 FinD.eq_2 FinD.eq_3 Me.eq_1 panK_iface Vl.got.eq_1 Vl.got.eq_2 FinS.eq_1 FinS.eq_2 List.take_succ_cons List.take_zero List.append_nil List.nil_append List.cons_append List.append_eq
theorem Yi {P : Program} {N : Nat} {x y : Code} {T : Nat → AV} {H : Heap} {n : Nat} {Q : AEx → (Nat → AV) → Heap → Nat → Prop} (live : List Nat) (J : (Nat → AV) → Heap → Nat → Prop)
   (h : awp P N x T H n (Yw (fun T H n => J (tsel live T) H n) Q)) (hJ : ∀ T H n, J T H n → awp P N y T H n Q) : awp P N (.seq x y) T H n Q :=
 JK (h.mono fun e T H n hq => by cases e <;> first | exact YR live (hJ _ _ _ hq) | exact hq)
theorem awp_raw_sl {P : Program} {N : Nat} {code : Code} {T : Nat → AV} {H : Heap} {n : Nat} {Q : AEx → (Nat → AV) → Heap → Nat → Prop} (t : Tmp) {e : Nat} (hT : T t = .sl e [])
   (h : ∀ a cap, awp P N code (tput T (some t) (.raw (.slice a 0 cap))) H n Q) : awp P N code T H n Q := fun c w a hs hr hN ds hd => by
 have ht := hr t
 rw [hT] at ht
 simp only [Rel, List.cons.injEq, and_true, List.length_nil] at ht
 obtain ⟨ad, cap, ev, _⟩ := ht
 refine h ad cap c w a hs (fun u => ?_) hN ds hd
 simp only [tput]
 split
 ·rename_i e2; subst e2; simp only [Rel]; exact ⟨by rw [ev], fun h => by cases h⟩
 ·exact hr u
theorem Wk.raw_sl (a : Option Addr) (cap e : Nat) : Wk (.raw (.slice a 0 cap)) (.sl e []) := ⟨rfl, fun c m cs h => by
 simp only [Rel] at h ⊢
 exact ⟨a, cap, h.1, Nat.zero_le _, by simp, .inl trivial⟩⟩
theorem Yh {P : Program} {N : Nat} {code : Code} {T : Nat → AV} {H : Heap} {n : Nat} {Q : AEx → (Nat → AV) → Heap → Nat → Prop} (Φ : Heap → Nat → Prop) (h0 : Φ H n) (h : ∀ H n, Φ H n → awp P N code T H n Q) : awp P N code T H n Q := h H n h0
theorem Zx.finP {P : Program} {f : FuncId} {args : List AV} {H : Heap} {n : Nat} {K : ARes → Heap → Nat → Prop}
   (h : Zx P f args H n fun res H1 n' => (∃ r r' H', res = .val r ∧ (∀ k, k < n → H' k = H1 k ∧ (H1 k = H k ∨ ∀ o, H1 k = some o → o.kl n)) ∧ (∀ k, n ≤ k → H' k = H k) ∧ Frz H1 n r r' ∧ K (.val r') H' n) ∨ ∃ p, res = .pan p ∧ K (.pan p) H1 n') : Zx P f args H n K :=
 fun c w vs hs hr => (h c w vs hs hr).mono fun e w' ⟨res, c', H1, n', hd, hst, hm⟩ => by
   rcases hd with ⟨r, r', H', hres, hlow, hhigh, hfrz, Y⟩ | ⟨p, hres, Y⟩
   ·subst hres
    refine ⟨.val r', c'.frz H1 n w', H', n, Y, Step.fin hs hst hlow hhigh, ?_⟩
    cases e with
    | returned v => exact Frz.rel hst.sim hfrz hm
    | panicked _ => exact hm.elim
    | outgrown => exact hm.elim
   ·subst hres
    exact ⟨.pan p, c', H1, n', Y, hst, hm⟩
end Go.Sx
namespace Go.Proofs.YtifnhpmeoogedaaGreatDoor
open Go Go.Sx Go.Rt Go.Proofs Tryz
theorem ZU (x lo hi : Int) (H : Heap) (n : Nat) : Ret prog 48 [.int .i64 x, .int .i64 lo, .int .i64 hi] H n (.bool (bout x lo hi)) H n := by
 refine Zc func48 rfl ntmps48 (congrArg Array.toList results48) (by simp) ?_
 simp only [go_sem]
 refine ZE zs [0, 1, 2] ?_
 refine ZE zs [6] ?_
 refine Zf ?_
 simp only [go_sem, seval]
 unfold bout; by_cases h : x < lo <;> simp [h]
theorem JC (s : List Fml) (hs : s.length ≤ 2000000) (c : YF) (H : Heap) (n : Nat) : Ret prog 50 [Zt s, Zu c] H n (.bool (XB s.length c)) H n := by
 have hw : IntKind.i64.wrap ((s.length : Int) - 1) = (s.length : Int) - 1 := w64 (by omega) (by omega)
 refine Ret.fin ?_
 refine Zc func50 rfl ntmps50 (congrArg Array.toList results50) (by simp) ?_
 simp only [go_sem]
 refine Za zs [2, 3] fun K Y => ?_
 simp only [go_sem, seval, Zu, bys]
 apply Y; clear Y K
 refine Za zs [2, 3, 5] fun K Y => ?_
 simp only [go_sem, seval]
 repeat refine peel ?_
 apply Y; clear Y K
 refine Za zs [4] fun K Y => ?_
 simp only [go_sem, seval]
 refine Zg func48 rfl rfl rfl ((ZU c.kind 1 6 _ _)) ?_
 simp only [go_sem, seval, List.length_map, hw]
 refine Zv func48 rfl rfl rfl (fun _ => (ZU c.fam 0 ((s.length : Int) - 1) _ _)) ?_
 simp only [go_sem, seval, List.length_map]
 repeat (first | refine peel ?_ | refine ⟨by (intro h1 h2 h3; rw [h1, h3]; rfl), ?_⟩)
 apply Y; clear Y K
 refine Zf ?_
 simp only [go_sem, seval]
 refine ⟨_, rfl, ?_, Frz.eq ?_ trivial⟩
 ·intro k hk; have h0 : k ≠ n := by omega
  have h1 : ∀ j, k ≠ n + j := fun j => by omega
  simp [Heap.put, h0, h1]
 ·congr 1; unfold XB
  generalize bout c.kind 1 6 = b1; generalize bout c.fam 0 ((s.length : Int) - 1) = b2
  by_cases h1 : c.kind = 1 <;> by_cases h2 : c.kind = 2 <;> cases b1 <;> cases b2 <;> simp_all
theorem c_order_step (s : List Fml) (hs : s.length ≤ 2000000) (c : OpE) (H : Heap) (n : Nat) : Ret prog 52 [Zt s, opAV c] H n (.bool (opOK s.length c)) H n := by
 have hw : IntKind.i64.wrap ((s.length : Int) - 1) = (s.length : Int) - 1 := w64 (by omega) (by omega)
 refine Ret.fin ?_
 refine Zc func52 rfl ntmps52 (congrArg Array.toList results52) (by simp) ?_
 simp only [go_sem]
 refine Za zs [2, 3] fun K Y => ?_
 simp only [go_sem, seval, opAV, bys]
 apply Y; clear Y K
 refine Zb fun K1 hK1 => ?_
 refine Zj ?_
 refine Zb fun K2 hK2 => ?_
 refine Za zs [2, 3, 5] fun K Y => ?_
 simp only [go_sem, seval]
 refine Zg func48 rfl rfl rfl ((ZU c.kind 1 5 _ _)) ?_
 simp only [go_sem, seval]
 apply Y; clear Y K
 refine Ze ?_ ?_ <;> intro hb
 ·refine Zd ?_
  simp only [go_sem, seval]
  apply hK2
  clear hK2 K2
  refine Ze ?_ ?_ <;> intro hb
  ·refine Za zs [4] fun K Y => ?_
   simp only [go_sem, seval]
   apply Y; clear Y K
   refine Zf ?_
   simp only [go_sem, seval]
   refine ⟨_, rfl, ?_, Frz.eq ?_ trivial⟩
   ·intro k hk; have h0 : k ≠ n := by omega
    have h1 : ∀ j, k ≠ n + j := fun j => by omega
    simp [Heap.put, h0, h1]
   ·congr 1; unfold opOK
    by_cases h5 : c.kind = 5 <;> by_cases hd : c.delta = 0 <;> by_cases h4 : c.kind = 4 <;> by_cases h1 : c.kind = 1 <;> simp_all
  refine Zb fun K3 hK3 => ?_
  refine Za zs [3, 27] fun K Y => ?_
  simp only [go_sem, seval, List.length_map]
  repeat refine peel ?_
  apply Y; clear Y K
  refine Ze ?_ ?_ <;> intro hb
  ·refine Zd ?_
   simp only [go_sem, seval]
   apply hK3
   clear hK3 K3
   refine Ze ?_ ?_ <;> intro hb
   ·refine Za zs [4] fun K Y => ?_
    simp only [go_sem, seval]
    apply Y; clear Y K
    refine Zf ?_
    simp only [go_sem, seval]
    refine ⟨_, rfl, ?_, Frz.eq ?_ trivial⟩
    ·intro k hk; have h0 : k ≠ n := by omega
     have h1 : ∀ j, k ≠ n + j := fun j => by omega
     simp [Heap.put, h0, h1]
    ·congr 1; unfold opOK
     by_cases h5 : c.kind = 5 <;> by_cases hd : c.delta = 0 <;> by_cases h4 : c.kind = 4 <;> by_cases h1 : c.kind = 1 <;> simp_all
   refine Zd ?_
   simp only [go_sem, seval]
   apply hK1
   clear hK1 K1
   refine Za zs [4] fun K Y => ?_
   simp only [go_sem, seval]
   repeat refine peel ?_
   apply Y; clear Y K
   refine Zf ?_
   simp only [go_sem, seval]
   refine ⟨_, rfl, ?_, Frz.eq ?_ trivial⟩
   ·intro k hk; have h0 : k ≠ n := by omega
    have h1 : ∀ j, k ≠ n + j := fun j => by omega
    simp [Heap.put, h0, h1]
   ·congr 1; unfold opOK
    by_cases h5 : c.kind = 5 <;> by_cases hd : c.delta = 0 <;> by_cases h4 : c.kind = 4 <;> by_cases h1 : c.kind = 1 <;> simp_all
  refine Za zs [3, 27] fun K Y => ?_
  simp only [go_sem, seval]
  repeat refine peel ?_
  apply Y; clear Y K
  refine Ze ?_ ?_ <;> intro hb
  ·refine Zd ?_
   simp only [go_sem, seval]
   apply hK3
   clear hK3 K3
   refine Ze ?_ ?_ <;> intro hb
   ·refine Za zs [4] fun K Y => ?_
    simp only [go_sem, seval]
    apply Y; clear Y K
    refine Zf ?_
    simp only [go_sem, seval]
    refine ⟨_, rfl, ?_, Frz.eq ?_ trivial⟩
    ·intro k hk; have h0 : k ≠ n := by omega
     have h1 : ∀ j, k ≠ n + j := fun j => by omega
     simp [Heap.put, h0, h1]
    ·congr 1; unfold opOK
     by_cases h5 : c.kind = 5 <;> by_cases hd : c.delta = 0 <;> by_cases h4 : c.kind = 4 <;> by_cases h1 : c.kind = 1 <;> simp_all
   refine Zd ?_
   simp only [go_sem, seval]
   apply hK1
   clear hK1 K1
   refine Za zs [4] fun K Y => ?_
   simp only [go_sem, seval]
   repeat refine peel ?_
   apply Y; clear Y K
   refine Zf ?_
   simp only [go_sem, seval]
   refine ⟨_, rfl, ?_, Frz.eq ?_ trivial⟩
   ·intro k hk; have h0 : k ≠ n := by omega
    have h1 : ∀ j, k ≠ n + j := fun j => by omega
    simp [Heap.put, h0, h1]
   ·congr 1; unfold opOK
    by_cases h5 : c.kind = 5 <;> by_cases hd : c.delta = 0 <;> by_cases h4 : c.kind = 4 <;> by_cases h1 : c.kind = 1 <;> simp_all
  refine Zl zs [3, 27] fun K Y => ?_
  simp only [go_sem, seval, List.length_map]
  repeat refine peel ?_
  apply Y; clear Y K
  simp only [go_sem, seval]
  apply hK3
  clear hK3 K3
  refine Ze ?_ ?_ <;> intro hb
  ·refine Za zs [4] fun K Y => ?_
   simp only [go_sem, seval]
   apply Y; clear Y K
   refine Zf ?_
   simp only [go_sem, seval]
   refine ⟨_, rfl, ?_, Frz.eq ?_ trivial⟩
   ·intro k hk; have h0 : k ≠ n := by omega
    have h1 : ∀ j, k ≠ n + j := fun j => by omega
    simp [Heap.put, h0, h1]
   ·congr 1; unfold opOK
    by_cases h5 : c.kind = 5 <;> by_cases hd : c.delta = 0 <;> by_cases h4 : c.kind = 4 <;> by_cases h1 : c.kind = 1 <;> simp_all
  refine Zd ?_
  simp only [go_sem, seval]
  apply hK1
  clear hK1 K1
  refine Za zs [4] fun K Y => ?_
  simp only [go_sem, seval]
  repeat refine peel ?_
  apply Y; clear Y K
  refine Zf ?_
  simp only [go_sem, seval]
  refine ⟨_, rfl, ?_, Frz.eq ?_ trivial⟩
  ·intro k hk; have h0 : k ≠ n := by omega
   have h1 : ∀ j, k ≠ n + j := fun j => by omega
   simp [Heap.put, h0, h1]
  ·congr 1; unfold opOK
   by_cases h5 : c.kind = 5 <;> by_cases hd : c.delta = 0 <;> by_cases h4 : c.kind = 4 <;> by_cases h1 : c.kind = 1 <;> simp_all
 refine Za zs [3, 5] fun K Y => ?_
 simp only [go_sem, seval, List.length_map, hw]
 refine Zg func48 rfl rfl rfl ((ZU c.fam 0 ((s.length : Int) - 1) _ _)) ?_
 simp only [go_sem, seval]
 apply Y; clear Y K
 refine Ze ?_ ?_ <;> intro hb
 ·refine Zd ?_
  simp only [go_sem, seval]
  apply hK2
  clear hK2 K2
  refine Ze ?_ ?_ <;> intro hb
  ·refine Za zs [4] fun K Y => ?_
   simp only [go_sem, seval]
   apply Y; clear Y K
   refine Zf ?_
   simp only [go_sem, seval]
   refine ⟨_, rfl, ?_, Frz.eq ?_ trivial⟩
   ·intro k hk; have h0 : k ≠ n := by omega
    have h1 : ∀ j, k ≠ n + j := fun j => by omega
    simp [Heap.put, h0, h1]
   ·congr 1; unfold opOK
    by_cases h5 : c.kind = 5 <;> by_cases hd : c.delta = 0 <;> by_cases h4 : c.kind = 4 <;> by_cases h1 : c.kind = 1 <;> simp_all
  refine Zb fun K4 hK4 => ?_
  refine Za zs [3, 27] fun K Y => ?_
  simp only [go_sem, seval, List.length_map]
  repeat refine peel ?_
  apply Y; clear Y K
  refine Ze ?_ ?_ <;> intro hb
  ·refine Zd ?_
   simp only [go_sem, seval]
   apply hK4
   clear hK4 K4
   refine Ze ?_ ?_ <;> intro hb
   ·refine Za zs [4] fun K Y => ?_
    simp only [go_sem, seval]
    apply Y; clear Y K
    refine Zf ?_
    simp only [go_sem, seval]
    refine ⟨_, rfl, ?_, Frz.eq ?_ trivial⟩
    ·intro k hk; have h0 : k ≠ n := by omega
     have h1 : ∀ j, k ≠ n + j := fun j => by omega
     simp [Heap.put, h0, h1]
    ·congr 1; unfold opOK
     by_cases h5 : c.kind = 5 <;> by_cases hd : c.delta = 0 <;> by_cases h4 : c.kind = 4 <;> by_cases h1 : c.kind = 1 <;> simp_all
   refine Zd ?_
   simp only [go_sem, seval]
   apply hK1
   clear hK1 K1
   refine Za zs [4] fun K Y => ?_
   simp only [go_sem, seval]
   repeat refine peel ?_
   apply Y; clear Y K
   refine Zf ?_
   simp only [go_sem, seval]
   refine ⟨_, rfl, ?_, Frz.eq ?_ trivial⟩
   ·intro k hk; have h0 : k ≠ n := by omega
    have h1 : ∀ j, k ≠ n + j := fun j => by omega
    simp [Heap.put, h0, h1]
   ·congr 1; unfold opOK
    by_cases h5 : c.kind = 5 <;> by_cases hd : c.delta = 0 <;> by_cases h4 : c.kind = 4 <;> by_cases h1 : c.kind = 1 <;> simp_all
  refine Za zs [3, 27] fun K Y => ?_
  simp only [go_sem, seval]
  repeat refine peel ?_
  apply Y; clear Y K
  refine Ze ?_ ?_ <;> intro hb
  ·refine Zd ?_
   simp only [go_sem, seval]
   apply hK4
   clear hK4 K4
   refine Ze ?_ ?_ <;> intro hb
   ·refine Za zs [4] fun K Y => ?_
    simp only [go_sem, seval]
    apply Y; clear Y K
    refine Zf ?_
    simp only [go_sem, seval]
    refine ⟨_, rfl, ?_, Frz.eq ?_ trivial⟩
    ·intro k hk; have h0 : k ≠ n := by omega
     have h1 : ∀ j, k ≠ n + j := fun j => by omega
     simp [Heap.put, h0, h1]
    ·congr 1; unfold opOK
     by_cases h5 : c.kind = 5 <;> by_cases hd : c.delta = 0 <;> by_cases h4 : c.kind = 4 <;> by_cases h1 : c.kind = 1 <;> simp_all
   refine Zd ?_
   simp only [go_sem, seval]
   apply hK1
   clear hK1 K1
   refine Za zs [4] fun K Y => ?_
   simp only [go_sem, seval]
   repeat refine peel ?_
   apply Y; clear Y K
   refine Zf ?_
   simp only [go_sem, seval]
   refine ⟨_, rfl, ?_, Frz.eq ?_ trivial⟩
   ·intro k hk; have h0 : k ≠ n := by omega
    have h1 : ∀ j, k ≠ n + j := fun j => by omega
    simp [Heap.put, h0, h1]
   ·congr 1; unfold opOK
    by_cases h5 : c.kind = 5 <;> by_cases hd : c.delta = 0 <;> by_cases h4 : c.kind = 4 <;> by_cases h1 : c.kind = 1 <;> simp_all
  refine Zl zs [3, 27] fun K Y => ?_
  simp only [go_sem, seval, List.length_map]
  repeat refine peel ?_
  apply Y; clear Y K
  simp only [go_sem, seval]
  apply hK4
  clear hK4 K4
  refine Ze ?_ ?_ <;> intro hb
  ·refine Za zs [4] fun K Y => ?_
   simp only [go_sem, seval]
   apply Y; clear Y K
   refine Zf ?_
   simp only [go_sem, seval]
   refine ⟨_, rfl, ?_, Frz.eq ?_ trivial⟩
   ·intro k hk; have h0 : k ≠ n := by omega
    have h1 : ∀ j, k ≠ n + j := fun j => by omega
    simp [Heap.put, h0, h1]
   ·congr 1; unfold opOK
    by_cases h5 : c.kind = 5 <;> by_cases hd : c.delta = 0 <;> by_cases h4 : c.kind = 4 <;> by_cases h1 : c.kind = 1 <;> simp_all
  refine Zd ?_
  simp only [go_sem, seval]
  apply hK1
  clear hK1 K1
  refine Za zs [4] fun K Y => ?_
  simp only [go_sem, seval]
  repeat refine peel ?_
  apply Y; clear Y K
  refine Zf ?_
  simp only [go_sem, seval]
  refine ⟨_, rfl, ?_, Frz.eq ?_ trivial⟩
  ·intro k hk; have h0 : k ≠ n := by omega
   have h1 : ∀ j, k ≠ n + j := fun j => by omega
   simp [Heap.put, h0, h1]
  ·congr 1; unfold opOK
   by_cases h5 : c.kind = 5 <;> by_cases hd : c.delta = 0 <;> by_cases h4 : c.kind = 4 <;> by_cases h1 : c.kind = 1 <;> simp_all
 refine Za zs [3, 5] fun K Y => ?_
 simp only [go_sem, seval, List.length_map]
 apply Y; clear Y K
 refine Ze ?_ ?_ <;> intro hb
 ·refine Zd ?_
  simp only [go_sem, seval]
  apply hK2
  clear hK2 K2
  refine Ze ?_ ?_ <;> intro hb
  ·refine Za zs [4] fun K Y => ?_
   simp only [go_sem, seval]
   apply Y; clear Y K
   refine Zf ?_
   simp only [go_sem, seval]
   refine ⟨_, rfl, ?_, Frz.eq ?_ trivial⟩
   ·intro k hk; have h0 : k ≠ n := by omega
    have h1 : ∀ j, k ≠ n + j := fun j => by omega
    simp [Heap.put, h0, h1]
   ·congr 1; unfold opOK
    by_cases h5 : c.kind = 5 <;> by_cases hd : c.delta = 0 <;> by_cases h4 : c.kind = 4 <;> by_cases h1 : c.kind = 1 <;> simp_all
  refine Zb fun K5 hK5 => ?_
  refine Za zs [3, 27] fun K Y => ?_
  simp only [go_sem, seval, List.length_map]
  repeat refine peel ?_
  apply Y; clear Y K
  refine Ze ?_ ?_ <;> intro hb
  ·refine Zd ?_
   simp only [go_sem, seval]
   apply hK5
   clear hK5 K5
   refine Ze ?_ ?_ <;> intro hb
   ·refine Za zs [4] fun K Y => ?_
    simp only [go_sem, seval]
    apply Y; clear Y K
    refine Zf ?_
    simp only [go_sem, seval]
    refine ⟨_, rfl, ?_, Frz.eq ?_ trivial⟩
    ·intro k hk; have h0 : k ≠ n := by omega
     have h1 : ∀ j, k ≠ n + j := fun j => by omega
     simp [Heap.put, h0, h1]
    ·congr 1; unfold opOK
     by_cases h5 : c.kind = 5 <;> by_cases hd : c.delta = 0 <;> by_cases h4 : c.kind = 4 <;> by_cases h1 : c.kind = 1 <;> simp_all
   refine Zd ?_
   simp only [go_sem, seval]
   apply hK1
   clear hK1 K1
   refine Za zs [4] fun K Y => ?_
   simp only [go_sem, seval]
   repeat refine peel ?_
   apply Y; clear Y K
   refine Zf ?_
   simp only [go_sem, seval]
   refine ⟨_, rfl, ?_, Frz.eq ?_ trivial⟩
   ·intro k hk; have h0 : k ≠ n := by omega
    have h1 : ∀ j, k ≠ n + j := fun j => by omega
    simp [Heap.put, h0, h1]
   ·congr 1; unfold opOK
    by_cases h5 : c.kind = 5 <;> by_cases hd : c.delta = 0 <;> by_cases h4 : c.kind = 4 <;> by_cases h1 : c.kind = 1 <;> simp_all
  refine Za zs [3, 27] fun K Y => ?_
  simp only [go_sem, seval]
  repeat refine peel ?_
  apply Y; clear Y K
  refine Ze ?_ ?_ <;> intro hb
  ·refine Zd ?_
   simp only [go_sem, seval]
   apply hK5
   clear hK5 K5
   refine Ze ?_ ?_ <;> intro hb
   ·refine Za zs [4] fun K Y => ?_
    simp only [go_sem, seval]
    apply Y; clear Y K
    refine Zf ?_
    simp only [go_sem, seval]
    refine ⟨_, rfl, ?_, Frz.eq ?_ trivial⟩
    ·intro k hk; have h0 : k ≠ n := by omega
     have h1 : ∀ j, k ≠ n + j := fun j => by omega
     simp [Heap.put, h0, h1]
    ·congr 1; unfold opOK
     by_cases h5 : c.kind = 5 <;> by_cases hd : c.delta = 0 <;> by_cases h4 : c.kind = 4 <;> by_cases h1 : c.kind = 1 <;> simp_all
   refine Zd ?_
   simp only [go_sem, seval]
   apply hK1
   clear hK1 K1
   refine Za zs [4] fun K Y => ?_
   simp only [go_sem, seval]
   repeat refine peel ?_
   apply Y; clear Y K
   refine Zf ?_
   simp only [go_sem, seval]
   refine ⟨_, rfl, ?_, Frz.eq ?_ trivial⟩
   ·intro k hk; have h0 : k ≠ n := by omega
    have h1 : ∀ j, k ≠ n + j := fun j => by omega
    simp [Heap.put, h0, h1]
   ·congr 1; unfold opOK
    by_cases h5 : c.kind = 5 <;> by_cases hd : c.delta = 0 <;> by_cases h4 : c.kind = 4 <;> by_cases h1 : c.kind = 1 <;> simp_all
  refine Zl zs [3, 27] fun K Y => ?_
  simp only [go_sem, seval, List.length_map]
  repeat refine peel ?_
  apply Y; clear Y K
  simp only [go_sem, seval]
  apply hK5
  clear hK5 K5
  refine Ze ?_ ?_ <;> intro hb
  ·refine Za zs [4] fun K Y => ?_
   simp only [go_sem, seval]
   apply Y; clear Y K
   refine Zf ?_
   simp only [go_sem, seval]
   refine ⟨_, rfl, ?_, Frz.eq ?_ trivial⟩
   ·intro k hk; have h0 : k ≠ n := by omega
    have h1 : ∀ j, k ≠ n + j := fun j => by omega
    simp [Heap.put, h0, h1]
   ·congr 1; unfold opOK
    by_cases h5 : c.kind = 5 <;> by_cases hd : c.delta = 0 <;> by_cases h4 : c.kind = 4 <;> by_cases h1 : c.kind = 1 <;> simp_all
  refine Zd ?_
  simp only [go_sem, seval]
  apply hK1
  clear hK1 K1
  refine Za zs [4] fun K Y => ?_
  simp only [go_sem, seval]
  repeat refine peel ?_
  apply Y; clear Y K
  refine Zf ?_
  simp only [go_sem, seval]
  refine ⟨_, rfl, ?_, Frz.eq ?_ trivial⟩
  ·intro k hk; have h0 : k ≠ n := by omega
   have h1 : ∀ j, k ≠ n + j := fun j => by omega
   simp [Heap.put, h0, h1]
  ·congr 1; unfold opOK
   by_cases h5 : c.kind = 5 <;> by_cases hd : c.delta = 0 <;> by_cases h4 : c.kind = 4 <;> by_cases h1 : c.kind = 1 <;> simp_all
 refine Za zs [3, 5] fun K Y => ?_
 simp only [go_sem, seval]
 refine Zg func48 rfl rfl rfl ((ZU c.ts 0 1099511627776 _ _)) ?_
 simp only [go_sem, seval]
 apply Y; clear Y K
 refine Ze ?_ ?_ <;> intro hb
 ·refine Zd ?_
  simp only [go_sem, seval]
  apply hK2
  clear hK2 K2
  refine Ze ?_ ?_ <;> intro hb
  ·refine Za zs [4] fun K Y => ?_
   simp only [go_sem, seval]
   apply Y; clear Y K
   refine Zf ?_
   simp only [go_sem, seval]
   refine ⟨_, rfl, ?_, Frz.eq ?_ trivial⟩
   ·intro k hk; have h0 : k ≠ n := by omega
    have h1 : ∀ j, k ≠ n + j := fun j => by omega
    simp [Heap.put, h0, h1]
   ·congr 1; unfold opOK
    by_cases h5 : c.kind = 5 <;> by_cases hd : c.delta = 0 <;> by_cases h4 : c.kind = 4 <;> by_cases h1 : c.kind = 1 <;> simp_all
  refine Zb fun K6 hK6 => ?_
  refine Za zs [3, 27] fun K Y => ?_
  simp only [go_sem, seval, List.length_map]
  repeat refine peel ?_
  apply Y; clear Y K
  refine Ze ?_ ?_ <;> intro hb
  ·refine Zd ?_
   simp only [go_sem, seval]
   apply hK6
   clear hK6 K6
   refine Ze ?_ ?_ <;> intro hb
   ·refine Za zs [4] fun K Y => ?_
    simp only [go_sem, seval]
    apply Y; clear Y K
    refine Zf ?_
    simp only [go_sem, seval]
    refine ⟨_, rfl, ?_, Frz.eq ?_ trivial⟩
    ·intro k hk; have h0 : k ≠ n := by omega
     have h1 : ∀ j, k ≠ n + j := fun j => by omega
     simp [Heap.put, h0, h1]
    ·congr 1; unfold opOK
     by_cases h5 : c.kind = 5 <;> by_cases hd : c.delta = 0 <;> by_cases h4 : c.kind = 4 <;> by_cases h1 : c.kind = 1 <;> simp_all
   refine Zd ?_
   simp only [go_sem, seval]
   apply hK1
   clear hK1 K1
   refine Za zs [4] fun K Y => ?_
   simp only [go_sem, seval]
   repeat refine peel ?_
   apply Y; clear Y K
   refine Zf ?_
   simp only [go_sem, seval]
   refine ⟨_, rfl, ?_, Frz.eq ?_ trivial⟩
   ·intro k hk; have h0 : k ≠ n := by omega
    have h1 : ∀ j, k ≠ n + j := fun j => by omega
    simp [Heap.put, h0, h1]
   ·congr 1; unfold opOK
    by_cases h5 : c.kind = 5 <;> by_cases hd : c.delta = 0 <;> by_cases h4 : c.kind = 4 <;> by_cases h1 : c.kind = 1 <;> simp_all
  refine Za zs [3, 27] fun K Y => ?_
  simp only [go_sem, seval]
  repeat refine peel ?_
  apply Y; clear Y K
  refine Ze ?_ ?_ <;> intro hb
  ·refine Zd ?_
   simp only [go_sem, seval]
   apply hK6
   clear hK6 K6
   refine Ze ?_ ?_ <;> intro hb
   ·refine Za zs [4] fun K Y => ?_
    simp only [go_sem, seval]
    apply Y; clear Y K
    refine Zf ?_
    simp only [go_sem, seval]
    refine ⟨_, rfl, ?_, Frz.eq ?_ trivial⟩
    ·intro k hk; have h0 : k ≠ n := by omega
     have h1 : ∀ j, k ≠ n + j := fun j => by omega
     simp [Heap.put, h0, h1]
    ·congr 1; unfold opOK
     by_cases h5 : c.kind = 5 <;> by_cases hd : c.delta = 0 <;> by_cases h4 : c.kind = 4 <;> by_cases h1 : c.kind = 1 <;> simp_all
   refine Zd ?_
   simp only [go_sem, seval]
   apply hK1
   clear hK1 K1
   refine Za zs [4] fun K Y => ?_
   simp only [go_sem, seval]
   repeat refine peel ?_
   apply Y; clear Y K
   refine Zf ?_
   simp only [go_sem, seval]
   refine ⟨_, rfl, ?_, Frz.eq ?_ trivial⟩
   ·intro k hk; have h0 : k ≠ n := by omega
    have h1 : ∀ j, k ≠ n + j := fun j => by omega
    simp [Heap.put, h0, h1]
   ·congr 1; unfold opOK
    by_cases h5 : c.kind = 5 <;> by_cases hd : c.delta = 0 <;> by_cases h4 : c.kind = 4 <;> by_cases h1 : c.kind = 1 <;> simp_all
  refine Zl zs [3, 27] fun K Y => ?_
  simp only [go_sem, seval, List.length_map]
  repeat refine peel ?_
  apply Y; clear Y K
  simp only [go_sem, seval]
  apply hK6
  clear hK6 K6
  refine Ze ?_ ?_ <;> intro hb
  ·refine Za zs [4] fun K Y => ?_
   simp only [go_sem, seval]
   apply Y; clear Y K
   refine Zf ?_
   simp only [go_sem, seval]
   refine ⟨_, rfl, ?_, Frz.eq ?_ trivial⟩
   ·intro k hk; have h0 : k ≠ n := by omega
    have h1 : ∀ j, k ≠ n + j := fun j => by omega
    simp [Heap.put, h0, h1]
   ·congr 1; unfold opOK
    by_cases h5 : c.kind = 5 <;> by_cases hd : c.delta = 0 <;> by_cases h4 : c.kind = 4 <;> by_cases h1 : c.kind = 1 <;> simp_all
  refine Zd ?_
  simp only [go_sem, seval]
  apply hK1
  clear hK1 K1
  refine Za zs [4] fun K Y => ?_
  simp only [go_sem, seval]
  repeat refine peel ?_
  apply Y; clear Y K
  refine Zf ?_
  simp only [go_sem, seval]
  refine ⟨_, rfl, ?_, Frz.eq ?_ trivial⟩
  ·intro k hk; have h0 : k ≠ n := by omega
   have h1 : ∀ j, k ≠ n + j := fun j => by omega
   simp [Heap.put, h0, h1]
  ·congr 1; unfold opOK
   by_cases h5 : c.kind = 5 <;> by_cases hd : c.delta = 0 <;> by_cases h4 : c.kind = 4 <;> by_cases h1 : c.kind = 1 <;> simp_all
 refine Zl zs [3, 5] fun K Y => ?_
 simp only [go_sem, seval, List.length_map]
 apply Y; clear Y K
 simp only [go_sem, seval]
 apply hK2
 clear hK2 K2
 refine Ze ?_ ?_ <;> intro hb
 ·refine Za zs [4] fun K Y => ?_
  simp only [go_sem, seval]
  apply Y; clear Y K
  refine Zf ?_
  simp only [go_sem, seval]
  refine ⟨_, rfl, ?_, Frz.eq ?_ trivial⟩
  ·intro k hk; have h0 : k ≠ n := by omega
   have h1 : ∀ j, k ≠ n + j := fun j => by omega
   simp [Heap.put, h0, h1]
  ·congr 1; unfold opOK
   by_cases h5 : c.kind = 5 <;> by_cases hd : c.delta = 0 <;> by_cases h4 : c.kind = 4 <;> by_cases h1 : c.kind = 1 <;> simp_all
 refine Zb fun K7 hK7 => ?_
 refine Za zs [3, 27] fun K Y => ?_
 simp only [go_sem, seval, List.length_map]
 repeat refine peel ?_
 apply Y; clear Y K
 refine Ze ?_ ?_ <;> intro hb
 ·refine Zd ?_
  simp only [go_sem, seval]
  apply hK7
  clear hK7 K7
  refine Ze ?_ ?_ <;> intro hb
  ·refine Za zs [4] fun K Y => ?_
   simp only [go_sem, seval]
   apply Y; clear Y K
   refine Zf ?_
   simp only [go_sem, seval]
   refine ⟨_, rfl, ?_, Frz.eq ?_ trivial⟩
   ·intro k hk; have h0 : k ≠ n := by omega
    have h1 : ∀ j, k ≠ n + j := fun j => by omega
    simp [Heap.put, h0, h1]
   ·congr 1; unfold opOK
    by_cases h5 : c.kind = 5 <;> by_cases hd : c.delta = 0 <;> by_cases h4 : c.kind = 4 <;> by_cases h1 : c.kind = 1 <;> simp_all
  refine Zd ?_
  simp only [go_sem, seval]
  apply hK1
  clear hK1 K1
  refine Za zs [4] fun K Y => ?_
  simp only [go_sem, seval]
  repeat refine peel ?_
  apply Y; clear Y K
  refine Zf ?_
  simp only [go_sem, seval]
  refine ⟨_, rfl, ?_, Frz.eq ?_ trivial⟩
  ·intro k hk; have h0 : k ≠ n := by omega
   have h1 : ∀ j, k ≠ n + j := fun j => by omega
   simp [Heap.put, h0, h1]
  ·congr 1; unfold opOK
   by_cases h5 : c.kind = 5 <;> by_cases hd : c.delta = 0 <;> by_cases h4 : c.kind = 4 <;> by_cases h1 : c.kind = 1 <;> simp_all
 refine Za zs [3, 27] fun K Y => ?_
 simp only [go_sem, seval]
 repeat refine peel ?_
 apply Y; clear Y K
 refine Ze ?_ ?_ <;> intro hb
 ·refine Zd ?_
  simp only [go_sem, seval]
  apply hK7
  clear hK7 K7
  refine Ze ?_ ?_ <;> intro hb
  ·refine Za zs [4] fun K Y => ?_
   simp only [go_sem, seval]
   apply Y; clear Y K
   refine Zf ?_
   simp only [go_sem, seval]
   refine ⟨_, rfl, ?_, Frz.eq ?_ trivial⟩
   ·intro k hk; have h0 : k ≠ n := by omega
    have h1 : ∀ j, k ≠ n + j := fun j => by omega
    simp [Heap.put, h0, h1]
   ·congr 1; unfold opOK
    by_cases h5 : c.kind = 5 <;> by_cases hd : c.delta = 0 <;> by_cases h4 : c.kind = 4 <;> by_cases h1 : c.kind = 1 <;> simp_all
  refine Zd ?_
  simp only [go_sem, seval]
  apply hK1
  clear hK1 K1
  refine Za zs [4] fun K Y => ?_
  simp only [go_sem, seval]
  repeat refine peel ?_
  apply Y; clear Y K
  refine Zf ?_
  simp only [go_sem, seval]
  refine ⟨_, rfl, ?_, Frz.eq ?_ trivial⟩
  ·intro k hk; have h0 : k ≠ n := by omega
   have h1 : ∀ j, k ≠ n + j := fun j => by omega
   simp [Heap.put, h0, h1]
  ·congr 1; unfold opOK
   by_cases h5 : c.kind = 5 <;> by_cases hd : c.delta = 0 <;> by_cases h4 : c.kind = 4 <;> by_cases h1 : c.kind = 1 <;> simp_all
 refine Zl zs [3, 27] fun K Y => ?_
 simp only [go_sem, seval, List.length_map]
 repeat refine peel ?_
 apply Y; clear Y K
 simp only [go_sem, seval]
 apply hK7
 clear hK7 K7
 refine Ze ?_ ?_ <;> intro hb
 ·refine Za zs [4] fun K Y => ?_
  simp only [go_sem, seval]
  apply Y; clear Y K
  refine Zf ?_
  simp only [go_sem, seval]
  refine ⟨_, rfl, ?_, Frz.eq ?_ trivial⟩
  ·intro k hk; have h0 : k ≠ n := by omega
   have h1 : ∀ j, k ≠ n + j := fun j => by omega
   simp [Heap.put, h0, h1]
  ·congr 1; unfold opOK
   by_cases h5 : c.kind = 5 <;> by_cases hd : c.delta = 0 <;> by_cases h4 : c.kind = 4 <;> by_cases h1 : c.kind = 1 <;> simp_all
 refine Zd ?_
 simp only [go_sem, seval]
 apply hK1
 clear hK1 K1
 refine Za zs [4] fun K Y => ?_
 simp only [go_sem, seval]
 repeat refine peel ?_
 apply Y; clear Y K
 refine Zf ?_
 simp only [go_sem, seval]
 refine ⟨_, rfl, ?_, Frz.eq ?_ trivial⟩
 ·intro k hk; have h0 : k ≠ n := by omega
  have h1 : ∀ j, k ≠ n + j := fun j => by omega
  simp [Heap.put, h0, h1]
 ·congr 1; unfold opOK
  by_cases h5 : c.kind = 5 <;> by_cases hd : c.delta = 0 <;> by_cases h4 : c.kind = 4 <;> by_cases h1 : c.kind = 1 <;> simp_all
def idxC (p : YF → Bool) : List YF → Nat → Int
 | [], _ => -1
 | x :: l, i => if p x then i else idxC p l (i + 1)
theorem idxC_ge (p : YF → Bool) : ∀ (l : List YF) (i : Nat), decide (0 ≤ idxC p l i) = l.any p
 | [], i => by simp [idxC]
 | x :: l, i => by
   simp only [idxC, List.any_cons]
   by_cases h : p x = true
   ·simp [h]
   ·simp [h, idxC_ge p l (i + 1)]
theorem c_every1_C (s : List Fml) (hs : s.length ≤ 2000000) (c : YF) (k1 k2 : Nat) (H : Heap) (n : Nat) (h1 : H k1 = some (.arr 0 1 [.fn (.func 50) [] []])) (h2 : H k2 = some (.arr 0 1 [Zt s])) (hk1 : k1 < n) (hk2 : k2 < n) :
   Ret prog 106 [Zu c, .loc k1 0 0 0 [], .loc k2 0 0 0 []] H n (.bool (!XB s.length c)) H n := by
 have e1 : (k1 = n) = False := by simp; omega
 have e2 : (k2 = n) = False := by simp; omega
 have e3 : AV.sz (Zt s) = 1 := rfl
 have e4 : AV.sz (Zu c) = 4 := Qw c
 have e5 : (Zu c).isAgg = true := rfl
 have e6 : (Zt s).isAgg = true := rfl
 have e7 : (Zu c).memOK = true := rfl
 refine Ret.fin ?_
 refine Zc func106 rfl ntmps106 (congrArg Array.toList results106) (by simp) ?_
 simp only [go_sem]
 refine Za zs [1, 2, 3] fun K Y => ?_
 simp only [go_sem, seval, e4, e7]
 apply Y; clear Y K
 refine Za zs [4] fun K Y => ?_
 simp only [go_sem, seval, h1, h2, e1, e2, e4, e5]
 refine Zg func50 rfl rfl rfl (JC s hs c _ _) ?_
 simp only [go_sem, seval]
 apply Y; clear Y K
 refine Zf ?_
 simp only [go_sem, seval]
 refine ⟨_, rfl, ?_, Frz.eq rfl trivial⟩
 ·intro k hk; have h0 : k ≠ n := by omega
  simp [Heap.put, h0]
theorem U9 (l : List YF) (hl : l.length ≤ 1048576) (f : FuncId) {fn : Func} (captured : List AV) (p : YF → Bool) (H : Heap) (n : Nat) (hf : (prog).funcs[f]? = some fn) (hbd : fn.body.isSome = true) (hn : (fn.name == "runtime.NumGoroutine") = false)
   (hp : ∀ x ∈ l, Ret prog f (Zu x :: captured) H n (.bool (p x)) H n) :
   Ret prog 139 [.sl 4 (l.map Zu), .fn (.func f) [] captured] H n (.int .i64 (idxC p l 0)) H n := by
 refine Zc func139 rfl ntmps139 (congrArg Array.toList results139) (by simp) ?_
 simp only [go_sem]
 refine Za zs [0, 1] fun K Y => ?_
 simp only [go_sem, seval]
 apply Y; clear Y K
 refine Zb fun K1 hK1 => ?_
 refine Za zs [0, 1, 7, 8] fun K Y => ?_
 simp only [go_sem, seval, List.length_map]
 apply Y; clear Y K
 refine Zj ?_
 refine Zz (fun T' H' n' => ∃ i : Nat, i ≤ l.length ∧ T' = tl [(0, .sl 4 (l.map Zu)), (1, .fn (.func f) [] captured), (7, .int .i64 l.length), (8, .int .i64 i)] ∧ H' = H ∧ n' = n ∧ idxC p (l.drop i) i = idxC p l 0) (fun T' _ _ => l.length - iv (T' 8)) ?_ ?_
 ·exact ⟨0, Nat.zero_le _, rfl, rfl, rfl, rfl⟩
 intro T1 H1 n1
 rintro ⟨i, hi, rfl, rfl, rfl, hix⟩
 refine Za zs [0, 1, 7, 8, 9] fun K Y => ?_
 simp only [go_sem, seval]
 apply Y; clear Y K
 refine Zb fun K2 hK2 => ?_
 refine Ze ?_ ?_ <;> intro hb
 ·have hlt : i < l.length := by simpa using hb
  rw [ZZ l i hlt] at hix
  have hmem : l.getD i default ∈ l := by rw [List.getD, List.getElem?_eq_getElem hlt]; exact List.getElem_mem _
  have hnth : nth (l.map Zu) i = Zu (l.getD i default) := ZF Zu l i hlt
  have e4 : AV.sz (Zu (l.getD i default)) = 4 := Qw _
  have e5 : (Zu (l.getD i default)).isAgg = true := rfl
  refine Zd ?_
  simp only [go_sem, seval]
  apply hK2
  clear hK2 K2
  refine Zb fun K3 hK3 => ?_
  refine Zj ?_
  refine Za zs [0, 1, 5, 7, 8] fun K Y => ?_
  simp only [go_sem, seval]
  apply Y; clear Y K
  refine Za zs [0, 1, 5, 7, 8, 16] fun K Y => ?_
  simp only [go_sem, seval, List.length_map, Int.toNat_natCast, hnth, e4, e5]
  repeat refine peel ?_
  refine Zg hf hbd hn rfl (hp _ hmem) ?_
  apply Y; clear Y K
  refine Ze ?_ ?_ <;> intro hb
  ·have hres : (i : Int) = idxC p l 0 := by rw [← hix, idxC, if_pos (show p (l.getD i default) = true from hb)]
   refine Za zs [4] fun K Y => ?_
   simp only [go_sem, seval]
   apply Y; clear Y K
   refine Zf ?_
   simp only [go_sem, seval]
   rw [hres]
  have hnext : idxC p (l.drop (i + 1)) (i + 1) = idxC p l 0 := by rw [← hix, idxC, if_neg (by rw [show p (l.getD i default) = false from hb]; simp)]
  refine Zd ?_
  simp only [go_sem, seval]
  apply hK3
  clear hK3 K3
  refine Zl zs [0, 1, 7, 8] fun K Y => ?_
  simp only [go_sem, seval]
  apply Y; clear Y K
  simp only [go_sem, seval]
  exact ⟨⟨i + 1, by omega, by rw [w1 (by omega)], hnext⟩, by rw [w1 (by omega)]; simp; omega⟩
 have hge : i = l.length := by simp at hb; omega
 have hres : (-1 : Int) = idxC p l 0 := by rw [← hix, hge]; simp [idxC]
 refine ZA ?_
 simp only [go_sem, seval]
 apply hK1
 refine Za zs [4] fun K Y => ?_
 simp only [go_sem, seval]
 apply Y; clear Y K
 refine Zf ?_
 simp only [go_sem, seval]
 rw [hres]
theorem Ul (l : List YF) (hl : l.length ≤ 1048576) (f : FuncId) {fn : Func} (captured : List AV) (p : YF → Bool) (H : Heap) (n : Nat) (hf : (prog).funcs[f]? = some fn) (hbd : fn.body.isSome = true) (hn : (fn.name == "runtime.NumGoroutine") = false)
   (hp : ∀ x ∈ l, Ret prog f (Zu x :: captured) H n (.bool (p x)) H n) :
   Ret prog 105 [.sl 4 (l.map Zu), .fn (.func f) [] captured] H n (.bool (l.any p)) H n := by
 refine Zc func105 rfl ntmps105 (congrArg Array.toList results105) (by simp) ?_
 simp only [go_sem]
 refine ZE zs [0, 1] ?_
 refine Za zs [4] fun K Y => ?_
 simp only [go_sem, seval]
 refine Zg func139 rfl rfl rfl ((U9 l hl f captured p H n hf hbd hn hp)) ?_
 simp only [go_sem, seval]
 apply Y; clear Y K
 refine Zf ?_
 simp only [go_sem, seval]
 rw [← idxC_ge p l 0]
theorem KO (s : List Fml) (hs : s.length ≤ 2000000) (l : List YF) (hl : l.length ≤ 1048576) (H : Heap) (n : Nat) :
   Ret prog 49 [Zt s, .sl 4 (l.map Zu), .fn (.func 50) [] []] H n (.bool (l.all (XB s.length))) H n := by
 have e3 : AV.sz (Zt s) = 1 := rfl
 refine Ret.fin ?_
 refine Zc func49 rfl ntmps49 (congrArg Array.toList results49) (by simp) ?_
 simp only [go_sem]
 refine Za zs [1, 3, 5] fun K Y => ?_
 simp only [go_sem, seval]
 apply Y; clear Y K
 refine Za zs [6] fun K Y => ?_
 simp only [go_sem, seval]
 refine Zg func105 rfl rfl rfl ((Ul l hl _ _ (fun x => !XB s.length x) _ _ func106 rfl rfl (fun x _ => c_every1_C s hs x (n + 1) n _ _ (by simp [Heap.put]) (by simp [Heap.put, Zt]) (by omega) (by omega)))) ?_
 simp only [go_sem, seval]
 apply Y; clear Y K
 refine Zf ?_
 simp only [go_sem, seval]
 refine ⟨_, rfl, ?_, Frz.eq ?_ trivial⟩
 ·intro k hk; have h0 : k ≠ n := by omega
  have h1 : ∀ j, k ≠ n + j := fun j => by omega
  simp [Heap.put, h0, h1]
 ·congr 1; rw [List.all_eq_not_any_not]
def idxO (p : OpE → Bool) : List OpE → Nat → Int
 | [], _ => -1
 | x :: l, i => if p x then i else idxO p l (i + 1)
theorem idxO_ge (p : OpE → Bool) : ∀ (l : List OpE) (i : Nat), decide (0 ≤ idxO p l i) = l.any p
 | [], i => by simp [idxO]
 | x :: l, i => by
   simp only [idxO, List.any_cons]
   by_cases h : p x = true
   ·simp [h]
   ·simp [h, idxO_ge p l (i + 1)]
theorem c_every1_O (s : List Fml) (hs : s.length ≤ 2000000) (c : OpE) (k1 k2 : Nat) (H : Heap) (n : Nat) (h1 : H k1 = some (.arr 0 1 [.fn (.func 52) [] []])) (h2 : H k2 = some (.arr 0 1 [Zt s])) (hk1 : k1 < n) (hk2 : k2 < n) :
   Ret prog 108 [opAV c, .loc k1 0 0 0 [], .loc k2 0 0 0 []] H n (.bool (!opOK s.length c)) H n := by
 have e1 : (k1 = n) = False := by simp; omega
 have e2 : (k2 = n) = False := by simp; omega
 have e3 : AV.sz (Zt s) = 1 := rfl
 have e4 : AV.sz (opAV c) = 6 := KV c
 have e5 : (opAV c).isAgg = true := rfl
 have e6 : (Zt s).isAgg = true := rfl
 have e7 : (opAV c).memOK = true := rfl
 refine Ret.fin ?_
 refine Zc func108 rfl ntmps108 (congrArg Array.toList results108) (by simp) ?_
 simp only [go_sem]
 refine Za zs [1, 2, 3] fun K Y => ?_
 simp only [go_sem, seval, e4, e7]
 apply Y; clear Y K
 refine Za zs [4] fun K Y => ?_
 simp only [go_sem, seval, h1, h2, e1, e2, e4, e5]
 refine Zg func52 rfl rfl rfl (c_order_step s hs c _ _) ?_
 simp only [go_sem, seval]
 apply Y; clear Y K
 refine Zf ?_
 simp only [go_sem, seval]
 refine ⟨_, rfl, ?_, Frz.eq rfl trivial⟩
 ·intro k hk; have h0 : k ≠ n := by omega
  simp [Heap.put, h0]
theorem U8 (l : List OpE) (hl : l.length ≤ 1048576) (f : FuncId) {fn : Func} (captured : List AV) (p : OpE → Bool) (H : Heap) (n : Nat) (hf : (prog).funcs[f]? = some fn) (hbd : fn.body.isSome = true) (hn : (fn.name == "runtime.NumGoroutine") = false)
   (hp : ∀ x ∈ l, Ret prog f (opAV x :: captured) H n (.bool (p x)) H n) :
   Ret prog 140 [.sl 6 (l.map opAV), .fn (.func f) [] captured] H n (.int .i64 (idxO p l 0)) H n := by
 refine Zc func140 rfl ntmps140 (congrArg Array.toList results140) (by simp) ?_
 simp only [go_sem]
 refine Za zs [0, 1] fun K Y => ?_
 simp only [go_sem, seval]
 apply Y; clear Y K
 refine Zb fun K1 hK1 => ?_
 refine Za zs [0, 1, 7, 8] fun K Y => ?_
 simp only [go_sem, seval, List.length_map]
 apply Y; clear Y K
 refine Zj ?_
 refine Zz (fun T' H' n' => ∃ i : Nat, i ≤ l.length ∧ T' = tl [(0, .sl 6 (l.map opAV)), (1, .fn (.func f) [] captured), (7, .int .i64 l.length), (8, .int .i64 i)] ∧ H' = H ∧ n' = n ∧ idxO p (l.drop i) i = idxO p l 0) (fun T' _ _ => l.length - iv (T' 8)) ?_ ?_
 ·exact ⟨0, Nat.zero_le _, rfl, rfl, rfl, rfl⟩
 intro T1 H1 n1
 rintro ⟨i, hi, rfl, rfl, rfl, hix⟩
 refine Za zs [0, 1, 7, 8, 9] fun K Y => ?_
 simp only [go_sem, seval]
 apply Y; clear Y K
 refine Zb fun K2 hK2 => ?_
 refine Ze ?_ ?_ <;> intro hb
 ·have hlt : i < l.length := by simpa using hb
  rw [ZZ l i hlt] at hix
  have hmem : l.getD i default ∈ l := by rw [List.getD, List.getElem?_eq_getElem hlt]; exact List.getElem_mem _
  have hnth : nth (l.map opAV) i = opAV (l.getD i default) := ZF opAV l i hlt
  have e4 : AV.sz (opAV (l.getD i default)) = 6 := KV _
  have e5 : (opAV (l.getD i default)).isAgg = true := rfl
  refine Zd ?_
  simp only [go_sem, seval]
  apply hK2
  clear hK2 K2
  refine Zb fun K3 hK3 => ?_
  refine Zj ?_
  refine Za zs [0, 1, 5, 7, 8] fun K Y => ?_
  simp only [go_sem, seval]
  apply Y; clear Y K
  refine Za zs [0, 1, 5, 7, 8, 16] fun K Y => ?_
  simp only [go_sem, seval, List.length_map, Int.toNat_natCast, hnth, e4, e5]
  repeat refine peel ?_
  refine Zg hf hbd hn rfl (hp _ hmem) ?_
  apply Y; clear Y K
  refine Ze ?_ ?_ <;> intro hb
  ·have hres : (i : Int) = idxO p l 0 := by rw [← hix, idxO, if_pos (show p (l.getD i default) = true from hb)]
   refine Za zs [4] fun K Y => ?_
   simp only [go_sem, seval]
   apply Y; clear Y K
   refine Zf ?_
   simp only [go_sem, seval]
   rw [hres]
  have hnext : idxO p (l.drop (i + 1)) (i + 1) = idxO p l 0 := by rw [← hix, idxO, if_neg (by rw [show p (l.getD i default) = false from hb]; simp)]
  refine Zd ?_
  simp only [go_sem, seval]
  apply hK3
  clear hK3 K3
  refine Zl zs [0, 1, 7, 8] fun K Y => ?_
  simp only [go_sem, seval]
  apply Y; clear Y K
  simp only [go_sem, seval]
  exact ⟨⟨i + 1, by omega, by rw [w1 (by omega)], hnext⟩, by rw [w1 (by omega)]; simp; omega⟩
 have hge : i = l.length := by simp at hb; omega
 have hres : (-1 : Int) = idxO p l 0 := by rw [← hix, hge]; simp [idxO]
 refine ZA ?_
 simp only [go_sem, seval]
 apply hK1
 refine Za zs [4] fun K Y => ?_
 simp only [go_sem, seval]
 apply Y; clear Y K
 refine Zf ?_
 simp only [go_sem, seval]
 rw [hres]
theorem Uk (l : List OpE) (hl : l.length ≤ 1048576) (f : FuncId) {fn : Func} (captured : List AV) (p : OpE → Bool) (H : Heap) (n : Nat) (hf : (prog).funcs[f]? = some fn) (hbd : fn.body.isSome = true) (hn : (fn.name == "runtime.NumGoroutine") = false)
   (hp : ∀ x ∈ l, Ret prog f (opAV x :: captured) H n (.bool (p x)) H n) :
   Ret prog 107 [.sl 6 (l.map opAV), .fn (.func f) [] captured] H n (.bool (l.any p)) H n := by
 refine Zc func107 rfl ntmps107 (congrArg Array.toList results107) (by simp) ?_
 simp only [go_sem]
 refine ZE zs [0, 1] ?_
 refine Za zs [4] fun K Y => ?_
 simp only [go_sem, seval]
 refine Zg func140 rfl rfl rfl ((U8 l hl f captured p H n hf hbd hn hp)) ?_
 simp only [go_sem, seval]
 apply Y; clear Y K
 refine Zf ?_
 simp only [go_sem, seval]
 rw [← idxO_ge p l 0]
theorem KN (s : List Fml) (hs : s.length ≤ 2000000) (l : List OpE) (hl : l.length ≤ 1048576) (H : Heap) (n : Nat) :
   Ret prog 51 [Zt s, .sl 6 (l.map opAV), .fn (.func 52) [] []] H n (.bool (l.all (opOK s.length))) H n := by
 have e3 : AV.sz (Zt s) = 1 := rfl
 refine Ret.fin ?_
 refine Zc func51 rfl ntmps51 (congrArg Array.toList results51) (by simp) ?_
 simp only [go_sem]
 refine Za zs [1, 3, 5] fun K Y => ?_
 simp only [go_sem, seval]
 apply Y; clear Y K
 refine Za zs [6] fun K Y => ?_
 simp only [go_sem, seval]
 refine Zg func107 rfl rfl rfl ((Uk l hl _ _ (fun x => !opOK s.length x) _ _ func108 rfl rfl (fun x _ => c_every1_O s hs x (n + 1) n _ _ (by simp [Heap.put]) (by simp [Heap.put, Zt]) (by omega) (by omega)))) ?_
 simp only [go_sem, seval]
 apply Y; clear Y K
 refine Zf ?_
 simp only [go_sem, seval]
 refine ⟨_, rfl, ?_, Frz.eq ?_ trivial⟩
 ·intro k hk; have h0 : k ≠ n := by omega
  have h1 : ∀ j, k ≠ n + j := fun j => by omega
  simp [Heap.put, h0, h1]
 ·congr 1; rw [List.all_eq_not_any_not]
theorem Xo (v : Nat) (hv : v < 18446744073709551616) (H : Heap) (n : Nat) : Ret prog 146 [.int .u64 v] H n (.osl n (Zm v).length 0 (Zm v).length) (H.put n (some (.arr (Zm v).length 1 ((Zm v).map Zn)))) (n + 1) := by
 have hlen := ZL hv
 refine Zc func146 rfl ntmps146 (congrArg Array.toList results146) (by simp) ?_
 simp only [go_sem]
 refine Za zs [0] fun K Y => ?_
 simp only [go_sem, seval]
 apply Y; clear Y K
 refine Za zs [0, 3] fun K Y => ?_
 simp only [go_sem, seval]
 apply Y; clear Y K
 refine Zb fun K1 hK1 => ?_
 refine Zj ?_
 refine Yb 3 1 rfl ?_
 refine YR [0, 3] ?_
 simp only [go_sem, seval]
 refine Zz (fun T' H' n' => ∃ (b : List UInt8) (x : Nat), b ++ Zm x = Zm v ∧ x < 18446744073709551616 ∧ T' = tl [(0, .int .u64 x), (3, .osl n b.length 0 b.length)] ∧ H' = H.put n (some (.arr b.length 1 (b.map Zn))) ∧ n' = n + 1) (fun T' _ _ => iv (T' 0)) ?_ ?_
 ·exact ⟨[], v, rfl, hv, rfl, rfl, rfl⟩
 intro T1 H1 n1
 rintro ⟨b, x, hbx, hx, rfl, rfl, rfl⟩
 refine Zb fun K2 hK2 => ?_
 refine Za zs [0, 3, 5] fun K Y => ?_
 simp only [go_sem, seval]
 apply Y; clear Y K
 refine Ze ?_ ?_ <;> intro hb
 ·have hge : 128 ≤ x := by have := of_decide_eq_true hb; omega
  rw [UM hge] at hbx
  have hbl : b.length ≤ 10 := by have := congrArg List.length hbx; simp at this; omega
  refine Zd ?_
  simp only [go_sem, seval]
  apply hK2
  clear hK2 K2
  refine Zj ?_
  refine Za zs [0, 3] fun K Y => ?_
  simp only [go_sem, seval, or128, List.length_map]
  repeat (first | refine peel ?_ | (refine And.intro ?_ ?_; · first | exact ⟨rfl, by simp [AV.sz, AV.memOK]⟩ | exact ⟨by omega, .inr trivial, by omega, by omega⟩))
  apply Y; clear Y K
  refine Zl zs [0, 3] fun K Y => ?_
  simp only [go_sem, seval, shr7]
  apply Y; clear Y K
  simp only [go_sem, seval]
  refine ⟨⟨b ++ [UInt8.ofNat (x % 128 + 128)], x / 128, by rw [List.append_assoc]; exact hbx, by omega, ?_, ?_⟩, by simp [iv]; omega⟩
  ·rw [List.length_append]; rfl
  ·rw [List.take_of_length_le (by simp), List.map_append, List.length_append]; rfl
 have hlt : x < 128 := by have := of_decide_eq_false hb; omega
 rw [WX hlt] at hbx
 have hbl : b.length ≤ 10 := by have := congrArg List.length hbx; simp at this; omega
 refine ZA ?_
 simp only [go_sem, seval]
 apply hK1
 refine Za zs [2] fun K Y => ?_
 simp only [go_sem, seval, Y3, Ki, List.length_map]
 repeat (first | refine peel ?_ | (refine And.intro ?_ ?_; · first | exact ⟨rfl, by simp [AV.sz, AV.memOK]⟩ | exact ⟨by omega, .inr trivial, by omega, by omega⟩))
 apply Y; clear Y K
 refine Zf ?_
 simp only [go_sem, seval]
 rw [← hbx, List.take_of_length_le (by simp), List.map_append, List.length_append]
 exact ⟨rfl, rfl⟩
theorem XT (b : List UInt8) (hb : b.length ≤ 1099511627776) (H : Heap) (n : Nat) : Ret prog 147 [bys b] H n (.osl n ((Zm b.length).length + 1) 0 (Zp b).length) (H.put n (some (.arr ((Zm b.length).length + 1) 1 ((Zp b).map Zn)))) (n + 1) := by
 have hlen := ZL (v := b.length) (by omega)
 have hu : u64 (b.length : Int) = b.length := XD _ (by omega)
 refine Zc func147 rfl ntmps147 (congrArg Array.toList results147) (by simp) ?_
 simp only [go_sem]
 refine Za zs [0] fun K Y => ?_
 simp only [go_sem, seval]
 apply Y; clear Y K
 refine Za zs [2] fun K Y => ?_
 simp only [go_sem, seval, List.length_map, YK, hu]
 refine Zg func146 rfl rfl rfl ((Xo b.length (by omega) _ _)) ?_
 simp only [go_sem, seval, List.length_map]
 repeat (first | refine peel ?_ | refine ⟨by exact ⟨by omega, .inr trivial, by omega, by omega⟩, ?_⟩)
 apply Y; clear Y K
 refine Zf ?_
 simp only [go_sem, seval]
 refine ⟨by simp [Zp], ?_⟩
 funext k; simp only [MF]
 by_cases hk : k = n
 ·simp [hk, Zp, List.take_of_length_le]
 ·simp [hk]
theorem Ye {H : Heap} {n kw kb M : Nat} {bs : List UInt8} (h : WSt H n kw kb M bs) (x : Int) (hM : M + 1 ≤ 70368744177664) : Zx prog 113 [.loc kw 0 0 0 [], .int .i64 x] H n (WK H n kw kb (M + 1) (bs ++ [ZW x])) := by
 obtain ⟨⟨ver, e1, e2⟩, e3, e4, e5, e6⟩ := h
 have e7 : (kw = kb) = False := by simp [e3]
 refine Zc func113 rfl ntmps113 (congrArg Array.toList results113) (by simp) ?_
 simp only [go_sem]
 refine Zl zs [] fun K Y => ?_
 simp only [go_sem, seval, e1, e2, e7, Y3, List.length_map]
 repeat (first | refine peel ?_ | (refine And.intro ?_ ?_; · first | exact ⟨rfl, by simp [Zn, AV.sz, AV.memOK]⟩ | exact ⟨by omega, .inr trivial, by omega, by omega⟩))
 apply Y; clear Y K
 simp only [go_sem, seval]
 refine ⟨rfl, Nat.le_refl _, ⟨⟨ver + 1, ?_, ?_⟩, e3, e4, e5, by simp; omega⟩, fun k hk h1 h2 => ?_⟩
 ·simp [Heap.put]
 ·simp [Heap.put, Ne.symm e3, List.take_of_length_le]; rfl
 ·simp [Heap.put, h1, h2]
theorem ZG {H : Heap} {n kw kb M : Nat} {bs : List UInt8} (h : WSt H n kw kb M bs) (x : Int) (hM : M + 10 ≤ 70368744177664) : Zx prog 114 [.loc kw 0 0 0 [], .int .i64 x] H n (WK H n kw kb (M + 10) (bs ++ Zm (u64 x))) := by
 obtain ⟨⟨ver, e1, e2⟩, e3, e4, e5, e6⟩ := h
 have e7 : (kw = kb) = False := by simp [e3]
 have e8 : (kw = n) = False := by simp; omega
 have e9 : (kb = n) = False := by simp; omega
 have e10 : List.take (Zm (u64 x)).length (List.map Zn (Zm (u64 x))) = List.map Zn (Zm (u64 x)) := List.take_of_length_le (by simp)
 have hlen := ZL (Xg x)
 refine Zc func114 rfl ntmps114 (congrArg Array.toList results114) (by simp) ?_
 simp only [go_sem]
 refine Qj rfl zs [] [.m, .m, .q, .q, .q, .m, .q, .w [2, 3, 4], .w [], .q, .q, .w []] [0, 1, 2, 3, 4, 5, 6, 7, 8, 9, 10, 11] [0, 1, 2, 3, 4, 5, 6, 7, 8, 9, 10, 11] (by kernel_rfl) (fun _ _ _ _ _ h => h) fun K Y => ?_
 simp only [go_sem, seval, e1, YK]
 refine Zg func146 rfl rfl rfl ((Xo (u64 x) (Xg x) _ _)) ?_
 simp only [go_sem, seval, e1, e2, e7, e8, e9, e10, List.length_map]
 repeat (first | refine peel ?_ | refine ⟨by exact ⟨Nat.le_refl _, Nat.le_refl _, .inr trivial, by omega, by omega⟩, ?_⟩)
 apply Y; clear Y K
 simp only [go_sem, seval]
 refine ⟨rfl, by omega, ⟨⟨ver + 1, ?_, ?_⟩, e3, by omega, by omega, by simp; omega⟩, fun k hk h1 h2 => ?_⟩
 ·simp [Heap.put]
 ·simp [Heap.put, Ne.symm e3, List.take_of_length_le]
 ·simp [Heap.put, h1, h2]; intro h3; omega
theorem ZM {H : Heap} {n kw kb M : Nat} {bs : List UInt8} (h : WSt H n kw kb M bs) (b : List UInt8) (hb : b.length ≤ 1099511627776) (hM : M + 10 + b.length ≤ 70368744177664) : Zx prog 115 [.loc kw 0 0 0 [], bys b] H n (WK H n kw kb (M + 10 + b.length) (bs ++ Zp b)) := by
 obtain ⟨⟨ver, e1, e2⟩, e3, e4, e5, e6⟩ := h
 have e7 : (kw = kb) = False := by simp [e3]
 have e8 : (kw = n) = False := by simp; omega
 have e9 : (kb = n) = False := by simp; omega
 have e10 : List.take (Zp b).length (List.map Zn (Zp b)) = List.map Zn (Zp b) := List.take_of_length_le (by simp)
 have hlen := ZL (v := b.length) (by omega)
 have hbl : (Zp b).length = (Zm b.length).length + b.length := by simp [Zp]
 refine Zc func115 rfl ntmps115 (congrArg Array.toList results115) (by simp) ?_
 simp only [go_sem]
 refine Qj rfl zs [] [.m, .m, .q, .q, .q, .m, .w [2, 3, 4], .w [], .q, .q, .w []] [0, 1, 2, 3, 4, 5, 6, 7, 8, 9, 10] [0, 1, 2, 3, 4, 5, 6, 7, 8, 9, 10] (by kernel_rfl) (fun _ _ _ _ _ h => h) fun K Y => ?_
 simp only [go_sem, seval, e1]
 refine Zg func147 rfl rfl rfl ((XT b hb _ _)) ?_
 simp only [go_sem, seval, e1, e2, e7, e8, e9, e10, List.length_map]
 repeat (first | refine peel ?_ | refine ⟨by exact ⟨Nat.le_refl _, Nat.le_refl _, .inr trivial, by omega, by omega⟩, ?_⟩)
 apply Y; clear Y K
 simp only [go_sem, seval]
 refine ⟨rfl, by omega, ⟨⟨ver + 1, ?_, ?_⟩, e3, by omega, by omega, by simp; omega⟩, fun k hk h1 h2 => ?_⟩
 ·simp [Heap.put]
 ·simp [Heap.put, Ne.symm e3, List.take_of_length_le]
 ·simp [Heap.put, h1, h2]; intro h3; omega
theorem XY {H : Heap} {n kw kb M : Nat} {bs : List UInt8} (h : WSt H n kw kb M bs) (b : Bool) (hM : M + 1 ≤ 70368744177664) : Zx prog 117 [.loc kw 0 0 0 [], .bool b] H n (WK H n kw kb (M + 1) (bs ++ Wx b)) := by
 refine Zc func117 rfl ntmps117 (congrArg Array.toList results117) (by simp) ?_
 simp only [go_sem]
 refine ZE zs [0, 4] ?_
 refine Ze ?_ ?_ <;> intro hb
 ·have hb2 : b = true := hb
  refine Zl zs [] fun K Y => ?_
  simp only [go_sem, seval]
  refine Zi (args' := [.loc kw 0 0 0 [], .int .i64 1]) func113 rfl rfl rfl (Ye h 1 hM) ?_ ?_
  rotate_left
  ·intro p H' n' h; cases h.1
  rintro rr G m hW1
  cases hW1.1
  apply Y; clear Y K
  simp only [go_sem, seval]
  subst hb2; exact hW1
 have hb2 : b = false := hb
 refine Zl zs [] fun K Y => ?_
 simp only [go_sem, seval]
 refine Zi (args' := [.loc kw 0 0 0 [], .int .i64 0]) func113 rfl rfl rfl (Ye h 0 hM) ?_ ?_
 rotate_left
 ·intro p H' n' h; cases h.1
 rintro rr G m hW1
 cases hW1.1
 apply Y; clear Y K
 simp only [go_sem, seval]
 subst hb2; exact hW1
theorem Qb {H : Heap} {n kw kb M : Nat} {bs : List UInt8} (h : WSt H n kw kb M bs) (x : Int) (hM : M + 8 ≤ 70368744177664) : Zx prog 116 [.loc kw 0 0 0 [], .int .i64 x] H n (WK H n kw kb (M + 8) (bs ++ XO x)) := by
 refine Zc func116 rfl ntmps116 (congrArg Array.toList results116) (by simp) ?_
 simp only [go_sem]
 refine ZE zs [0, 1, 4] ?_
 refine Zj ?_
 refine Zz (fun T' H' n' => ∃ (j : Nat), j ≤ 8 ∧ T' = tl [(0, .loc kw 0 0 0 []), (1, .int .i64 x), (4, .int .i64 (56 - 8 * (j : Int)))] ∧ WK H n kw kb (M + j) (bs ++ (XO x).take j) (.val (.tup [])) H' n') (fun T' _ _ => iv8 (T' 4)) ?_ ?_
 ·exact ⟨0, by omega, rfl, rfl, Nat.le_refl _, by simpa using h, fun _ _ _ _ => rfl⟩
 intro T1 H1 n1
 rintro ⟨j, hj, rfl, hW1⟩
 refine Zb fun K1 hK1 => ?_
 refine ZE zs [0, 1, 4, 6] ?_
 refine Ze ?_ ?_ <;> intro hb
 ·have hj8 : j < 8 := by have := of_decide_eq_true hb; omega
  have e1 : (x.fdiv (2 ^ (min (56 - 8 * (j : Int)).toNat 64))) = x / 2 ^ (56 - 8 * j) := by rw [fdiv_pow, show min (56 - 8 * (j : Int)).toNat 64 = 56 - 8 * j by omega]
  have e2 : IntKind.i64.wrap (56 - 8 * (j : Int) - 8) = 56 - 8 * ((j + 1 : Nat) : Int) := by rw [w64 (by omega) (by omega)]; omega
  refine Zd ?_
  simp only [go_sem, seval]
  apply hK1
  clear hK1 K1
  refine Zb fun K2 hK2 => ?_
  refine Zj ?_
  refine Zl zs [0, 1, 4] fun K Y => ?_
  simp only [go_sem, seval, e1]
  repeat refine peel ?_
  refine Zi (args' := [.loc kw 0 0 0 [], .int .i64 (x / 2 ^ (56 - 8 * j))]) func113 rfl rfl rfl (Ye hW1.2.2.1 (x / 2 ^ (56 - 8 * j)) (by omega)) ?_ ?_
  rotate_left
  ·intro p H' n' h; cases h.1
  rintro rr G m hW2
  cases hW2.1
  have hW3 := hW2.up hW1.2.1 hW1.2.2.2
  apply Y; clear Y K
  simp only [go_sem, seval]
  apply hK2
  clear hK2 K2
  refine Zl zs [0, 1, 4] fun K Y => ?_
  simp only [go_sem, seval, e2]
  apply Y; clear Y K
  simp only [go_sem, seval]
  refine ⟨⟨j + 1, by omega, rfl, by rw [← Ma x hj8, ← List.append_assoc]; exact hW3⟩, ?_⟩
  show (56 - 8 * ((j + 1 : Nat) : Int) + 8).toNat < (56 - 8 * (j : Int) + 8).toNat
  omega
 have hj8 : j = 8 := by have := of_decide_eq_false hb; omega
 refine ZA ?_
 simp only [go_sem, seval]
 subst hj8; exact hW1
def hdrB (c : CmdE) : List UInt8 := ZW c.kind :: (if ZQ c.kind || YQ c.kind then Zm (u64 c.client) ++ Zm (u64 c.serial) else [])
def mutB (c : CmdE) : List UInt8 := Zp c.row ++ Zm c.conds.length ++ c.conds.flatMap YB ++ Zm c.ops.length ++ c.ops.flatMap opB
theorem VT {c : CmdE} (h1 : 1 ≤ c.kind) (h7 : c.kind ≤ 7) : cmdB c = hdrB c ++ (if kOps c.kind then mutB c else []) ++ (if 0 ≤ Yn c.kind then Zm (u64 c.n) else []) ++ (if Yd c.kind then qryB c.q else []) := by
 have hk : c.kind = 1 ∨ c.kind = 2 ∨ c.kind = 3 ∨ c.kind = 4 ∨ c.kind = 5 ∨ c.kind = 6 ∨ c.kind = 7 := by omega
 unfold cmdB hdrB mutB
 rcases hk with h | h | h | h | h | h | h <;> simp [h, ZQ, YQ, kOps, Yn, Yd]
set_option maxRecDepth 100000 in
set_option maxHeartbeats 3200000 in
theorem KI (c : CmdE) (hc : c.fits) (h1 : 1 ≤ c.kind) (h7 : c.kind ≤ 7) (H : Heap) (n : Nat) (hG : GOK 0 2 H n) :
   Zx prog 55 [Zh c] H n fun res H' n' => ∃ ver, res = .val (.osl (n + 2) ver 0 (cmdB c).length) ∧ H' (n + 2) = some (.arr ver 1 ((cmdB c).map Zn)) ∧ n + 3 ≤ n' ∧ ∀ k, k < n → H' k = H k := by
 have r1 : (0 : Nat) = 0 := rfl
 have r4 := r1
 have r6 := r1
 have rG := r1
 have hkl : XX.length = 8 := rfl
 have hkn : nth XX c.kind.toNat = Zo c.kind := QY (by omega) (by omega)
 have hsz : (Zh c).sz = 17 := Yy c
 have hszq : (Zq c.q).sz = 10 := Yj c.q
 have hagq : (Zq c.q).isAgg = true := rfl
 have huc : u64 (c.conds.length : Int) = c.conds.length := XD _ (by have := hc.conds; omega)
 have huo : u64 (c.ops.length : Int) = c.ops.length := XD _ (by have := hc.ops; omega)
 have huf : u64 (c.q.fams.length : Int) = c.q.fams.length := XD _ (by have := hc.fams; omega)
 have hmoq : (Zq c.q).memOK = true := rfl
 refine Zc func55 rfl ntmps55 (congrArg Array.toList results55) (by simp) ?_
 simp only [go_sem]
 refine Za zs [1] fun K Y => ?_
 simp only [go_sem, seval, hszq, Zh, AV.memOK.eq_5]
 apply Y; clear Y K
 refine Za zs [1, 3] fun K Y => ?_
 simp only [go_sem, seval, AV.memOK.eq_5]
 apply Y; clear Y K
 refine Xk (n + 1) 1 (els' := [.agg [.osl (n + 2) 0 0 0]]) (MG _ _ _) ⟨Adp.agg ⟨Adp.nilsl _, trivial⟩, trivial⟩ ?_
 refine Yh (fun H' n' => WS H n [(n, .arr 0 17 [Zh c])] (n + 1) (n + 2) (0) ([]) H' n') ⟨⟨⟨0, by simp [Heap.put], by simp [Heap.put]⟩, by omega, by omega, by omega, by simp⟩, fun p hp => by rw [List.mem_singleton.1 hp]; exact ⟨by simp [Heap.put, Zh, bys], by simp, by simp, by show n < n + 2 + 1; omega⟩, fun k hk => by simp only [MF]; repeat rw [if_neg (by omega)], by omega, by omega⟩ fun H1 n1 hS => ?_
 have r1 := hS.get n (.arr 0 17 [Zh c]) (by simp)
 refine Za zs [1, 3] fun K Y => ?_
 simp only [go_sem, seval, r1, Zh]
 refine Zi (args' := [.loc (n + 1) 0 0 0 [], .int .i64 (c.kind)]) func113 rfl rfl rfl (Ye hS.w (c.kind) (by omega)) ?_ ?_
 rotate_left
 ·intro p H' n' h; cases h.1
 rintro rr G m hW9
 cases hW9.1
 have hS := hS.call hW9
 have r1 := hS.get (n) (.arr 0 17 [Zh c]) (by simp)
 clear hW9
 apply Y; clear Y K
 have rG := (hS.low 0 hG.gek).trans hG.kinds
 refine Za zs [1, 3, 4] fun K Y => ?_
 simp only [go_sem, seval, r1, rG, hkl, hkn, Zh, Zo, AV.memOK.eq_5]
 repeat refine peel ?_
 apply Y; clear Y K
 refine Yi [1, 3, 4] (fun T' H' n' => ∃ kt, T' = tl [(1, .loc n 0 0 0 []), (3, .loc (n + 1) 0 0 0 []), (4, .loc kt 0 0 0 [])] ∧ n + 3 ≤ kt ∧ WS H n [(kt, .arr 0 5 [Zo c.kind]), (n, .arr 0 17 [Zh c])] (n + 1) (n + 2) (1000) (hdrB c) H' n') ?_ ?_
 ·have hk3 : n + 3 ≤ m := by have := hS.w.lb; omega
  refine Yh (fun H' n' => WS H n [(m, .arr 0 5 [Zo c.kind]), (n, .arr 0 17 [Zh c])] (n + 1) (n + 2) (1) ([ZW c.kind]) H' n') ((hS.on (fun k hk => by simp only [MF]; repeat rw [if_neg (by omega)]) (by omega)).add (by simp [Heap.put, Zo]) (by have := hS.w.lw; omega) (by have := hS.w.lb; omega) (by omega)) fun H1 n1 hS => ?_
  generalize m = kt at *
  have r1 := hS.get (n) (.arr 0 17 [Zh c]) (by simp)
  have r4 := hS.get (kt) (.arr 0 5 [Zo c.kind]) (by simp)
  refine Za zs [1, 3, 4, 27] fun K Y => ?_
  simp only [go_sem, seval, r4, Zh, Zo]
  repeat refine peel ?_
  apply Y; clear Y K
  refine Ze ?_ ?_ <;> intro hb
  ·have hb4 : (ZQ c.kind || YQ c.kind) = true := by cases h : ZQ c.kind <;> simp_all
   refine Za zs [1, 3, 4] fun K Y => ?_
   simp only [go_sem, seval, r1, Zh, Zo]
   refine Zi (args' := [.loc (n + 1) 0 0 0 [], .int .i64 (c.client)]) func114 rfl rfl rfl (ZG hS.w (c.client) (by omega)) ?_ ?_
   rotate_left
   ·intro p H' n' h; cases h.1
   rintro rr G m hW9
   cases hW9.1
   have hS := hS.call hW9
   have r1 := hS.get (n) (.arr 0 17 [Zh c]) (by simp)
   have r4 := hS.get (kt) (.arr 0 5 [Zo c.kind]) (by simp)
   clear hW9
   apply Y; clear Y K
   refine Zl zs [1, 3, 4] fun K Y => ?_
   simp only [go_sem, seval, r1, Zh, Zo]
   refine Zi (args' := [.loc (n + 1) 0 0 0 [], .int .i64 (c.serial)]) func114 rfl rfl rfl (ZG hS.w (c.serial) (by omega)) ?_ ?_
   rotate_left
   ·intro p H' n' h; cases h.1
   rintro rr G m hW9
   cases hW9.1
   have hS := hS.call hW9
   have r1 := hS.get (n) (.arr 0 17 [Zh c]) (by simp)
   have r4 := hS.get (kt) (.arr 0 5 [Zo c.kind]) (by simp)
   clear hW9
   apply Y; clear Y K
   simp only [go_sem, seval, Zh, Zo]
   exact ⟨kt, rfl, hk3, (hS.up (by omega)).eq (by simp [hdrB, hb4])⟩
  have hb4 : (ZQ c.kind || YQ c.kind) = false := by cases h : ZQ c.kind <;> simp_all
  refine Zd ?_
  simp only [go_sem, seval, Zh, Zo]
  exact ⟨kt, rfl, hk3, (hS.up (by omega)).eq (by simp [hdrB, hb4])⟩
 rintro T1 H1 n1 ⟨kt, rfl, hk3, hS⟩
 have r1 := hS.get (n) (.arr 0 17 [Zh c]) (by simp)
 have r4 := hS.get (kt) (.arr 0 5 [Zo c.kind]) (by simp)
 refine Yi [1, 3, 4] (fun T' H' n' => ∃ kt, T' = tl [(1, .loc n 0 0 0 []), (3, .loc (n + 1) 0 0 0 []), (4, .loc kt 0 0 0 [])] ∧ n + 3 ≤ kt ∧ WS H n [(kt, .arr 0 5 [Zo c.kind]), (n, .arr 0 17 [Zh c])] (n + 1) (n + 2) (7000000000000) (hdrB c ++ (if kOps c.kind then mutB c else [])) H' n') ?_ ?_
 ·refine Za zs [1, 3, 4, 37] fun K Y => ?_
  simp only [go_sem, seval, r4, Zh, Zo]
  apply Y; clear Y K
  refine Ze ?_ ?_ <;> intro hb
  ·have hb5 : kOps c.kind = true := hb
   refine Za zs [1, 3, 4] fun K Y => ?_
   simp only [go_sem, seval, r1, Zh, Zo]
   refine Zi (args' := [.loc (n + 1) 0 0 0 [], bys (c.row)]) func115 rfl rfl rfl (ZM hS.w (c.row) (by have := hc.row; omega) (by have := hc.row; omega)) ?_ ?_
   rotate_left
   ·intro p H' n' h; cases h.1
   rintro rr G m hW9
   cases hW9.1
   have hS := hS.call hW9
   have r1 := hS.get (n) (.arr 0 17 [Zh c]) (by simp)
   have r4 := hS.get (kt) (.arr 0 5 [Zo c.kind]) (by simp)
   clear hW9
   apply Y; clear Y K
   refine Za zs [1, 3, 4] fun K Y => ?_
   simp only [go_sem, seval, r1, Zh, Zo, List.length_map]
   refine Zi (args' := [.loc (n + 1) 0 0 0 [], .int .i64 (c.conds.length)]) func114 rfl rfl rfl (ZG hS.w (c.conds.length) (by have := hc.row; omega)) ?_ ?_
   rotate_left
   ·intro p H' n' h; cases h.1
   rintro rr G m hW9
   cases hW9.1
   have hS := hS.call hW9
   have r1 := hS.get (n) (.arr 0 17 [Zh c]) (by simp)
   have r4 := hS.get (kt) (.arr 0 5 [Zo c.kind]) (by simp)
   clear hW9
   apply Y; clear Y K
   refine Zb fun K1 hK1 => ?_
   refine Za zs [1, 3, 4, 48, 49, 50] fun K Y => ?_
   simp only [go_sem, seval, r1, Zh, Zo, List.length_map]
   apply Y; clear Y K
   refine Zj ?_
   refine Zz (fun T' H' n' => ∃ i : Nat, i ≤ c.conds.length ∧ T' = tl [(1, .loc n 0 0 0 []), (3, .loc (n + 1) 0 0 0 []), (4, .loc kt 0 0 0 []), (48, .sl 4 (c.conds.map Zu)), (49, .int .i64 c.conds.length), (50, .int .i64 i)] ∧ WS H n [(kt, .arr 0 5 [Zo c.kind]), (n, .arr 0 17 [Zh c])] (n + 1) (n + 2) (1100000 + 2100000 * i) (hdrB c ++ Zp c.row ++ Zm c.conds.length ++ (c.conds.take i).flatMap YB) H' n') (fun T' _ _ => c.conds.length - iv (T' 50)) ?_ ?_
   ·exact ⟨0, by omega, rfl, (hS.up (by have := hc.row; have := hc.conds; omega)).eq (by simp [huc, huo])⟩
   intro T1 H1 n1
   rintro ⟨i, hi, rfl, hS⟩
   refine Za zs [1, 3, 4, 48, 49, 50, 51] fun K Y => ?_
   simp only [go_sem, seval, Zh, Zo]
   apply Y; clear Y K
   refine Zb fun K2 hK2 => ?_
   refine Ze ?_ ?_ <;> intro hb
   ·have hlt : i < c.conds.length := by simpa using hb
    have hfl := Xd YB c.conds hlt
    have hmem := X8 c.conds hlt
    have hnth : nth (c.conds.map Zu) i = Zu (c.conds.getD i default) := ZF Zu c.conds i hlt
    generalize c.conds.getD i default = x at *
    have hx := hc.cond x hmem
    have hil := hc.conds
    have hszx : (Zu x).sz = 4 := Qw x
    have hagx : (Zu x).isAgg = true := rfl
    have hmox : (Zu x).memOK = true := rfl
    have r1 := hS.get (n) (.arr 0 17 [Zh c]) (by simp)
    have r4 := hS.get (kt) (.arr 0 5 [Zo c.kind]) (by simp)
    refine Zd ?_
    simp only [go_sem, seval, Zh, Zo]
    apply hK2
    clear hK2 K2
    refine Zb fun K3 hK3 => ?_
    refine Zj ?_
    refine Za zs [1, 3, 4, 6, 48, 49, 50] fun K Y => ?_
    simp only [go_sem, seval, Zh, Zo, List.length_map, Int.toNat_natCast, hnth, hszx, hagx, hmox]
    repeat refine peel ?_
    apply Y; clear Y K
    refine Yh (fun H' n' => WS H n [(n1, .arr 0 4 [Zu x]), (kt, .arr 0 5 [Zo c.kind]), (n, .arr 0 17 [Zh c])] (n + 1) (n + 2) (1100000 + 2100000 * i) (hdrB c ++ Zp c.row ++ Zm c.conds.length ++ (c.conds.take i).flatMap YB) H' n') ((hS.on (fun k hk => by simp only [MF]; repeat rw [if_neg (by omega)]) (by omega)).add (by simp [Heap.put]) (by have := hS.w.lw; omega) (by have := hS.w.lb; omega) (by omega)) fun H1 n1' hS => ?_
    generalize n1 = kx at *
    have r1 := hS.get (n) (.arr 0 17 [Zh c]) (by simp)
    have r4 := hS.get (kt) (.arr 0 5 [Zo c.kind]) (by simp)
    have r6 := hS.get (kx) (.arr 0 4 [Zu x]) (by simp)
    refine Za zs [1, 3, 4, 6, 48, 49, 50] fun K Y => ?_
    simp only [go_sem, seval, r6, Zh, Zo, Zu]
    refine Zi (args' := [.loc (n + 1) 0 0 0 [], .int .i64 (x.kind)]) func113 rfl rfl rfl (Ye hS.w (x.kind) (by omega)) ?_ ?_
    rotate_left
    ·intro p H' n' h; cases h.1
    rintro rr G m hW9
    cases hW9.1
    have hS := hS.call hW9
    have r1 := hS.get (n) (.arr 0 17 [Zh c]) (by simp)
    have r4 := hS.get (kt) (.arr 0 5 [Zo c.kind]) (by simp)
    have r6 := hS.get (kx) (.arr 0 4 [Zu x]) (by simp)
    clear hW9
    apply Y; clear Y K
    refine Za zs [1, 3, 4, 6, 48, 49, 50] fun K Y => ?_
    simp only [go_sem, seval, r6, Zh, Zo, Zu]
    refine Zi (args' := [.loc (n + 1) 0 0 0 [], .int .i64 (x.fam)]) func113 rfl rfl rfl (Ye hS.w (x.fam) (by omega)) ?_ ?_
    rotate_left
    ·intro p H' n' h; cases h.1
    rintro rr G m hW9
    cases hW9.1
    have hS := hS.call hW9
    have r1 := hS.get (n) (.arr 0 17 [Zh c]) (by simp)
    have r4 := hS.get (kt) (.arr 0 5 [Zo c.kind]) (by simp)
    have r6 := hS.get (kx) (.arr 0 4 [Zu x]) (by simp)
    clear hW9
    apply Y; clear Y K
    refine Za zs [1, 3, 4, 6, 48, 49, 50] fun K Y => ?_
    simp only [go_sem, seval, r6, Zh, Zo, Zu]
    refine Zi (args' := [.loc (n + 1) 0 0 0 [], bys (x.qual)]) func115 rfl rfl rfl (ZM hS.w (x.qual) (by omega) (by omega)) ?_ ?_
    rotate_left
    ·intro p H' n' h; cases h.1
    rintro rr G m hW9
    cases hW9.1
    have hS := hS.call hW9
    have r1 := hS.get (n) (.arr 0 17 [Zh c]) (by simp)
    have r4 := hS.get (kt) (.arr 0 5 [Zo c.kind]) (by simp)
    have r6 := hS.get (kx) (.arr 0 4 [Zu x]) (by simp)
    clear hW9
    apply Y; clear Y K
    refine Zl zs [1, 3, 4, 48, 49, 50] fun K Y => ?_
    simp only [go_sem, seval, r6, Zh, Zo, Zu]
    refine Zi (args' := [.loc (n + 1) 0 0 0 [], bys (x.value)]) func115 rfl rfl rfl (ZM hS.w (x.value) (by omega) (by omega)) ?_ ?_
    rotate_left
    ·intro p H' n' h; cases h.1
    rintro rr G m hW9
    cases hW9.1
    have hS := hS.call hW9
    have r1 := hS.get (n) (.arr 0 17 [Zh c]) (by simp)
    have r4 := hS.get (kt) (.arr 0 5 [Zo c.kind]) (by simp)
    have r6 := hS.get (kx) (.arr 0 4 [Zu x]) (by simp)
    clear hW9
    apply Y; clear Y K
    simp only [go_sem, seval, Zh, Zo]
    apply hK3
    clear hK3 K3
    refine Zl zs [1, 3, 4, 48, 49, 50] fun K Y => ?_
    simp only [go_sem, seval, Zh, Zo]
    apply Y; clear Y K
    simp only [go_sem, seval, Zh, Zo]
    refine ⟨⟨i + 1, by omega, by rw [w1 (by omega)], (hS.drop.up (by omega)).eq (by rw [hfl]; simp [YB])⟩, by rw [w1 (by omega)]; simp; omega⟩
   have hge : i = c.conds.length := by simp at hb; omega
   have hS := hS.eq (by rw [Xp YB c.conds (by omega)])
   have hil := hc.conds
   have r1 := hS.get (n) (.arr 0 17 [Zh c]) (by simp)
   have r4 := hS.get (kt) (.arr 0 5 [Zo c.kind]) (by simp)
   refine ZA ?_
   simp only [go_sem, seval, Zh, Zo]
   apply hK1
   refine Za zs [1, 3, 4] fun K Y => ?_
   simp only [go_sem, seval, r1, Zh, Zo, List.length_map]
   refine Zi (args' := [.loc (n + 1) 0 0 0 [], .int .i64 (c.ops.length)]) func114 rfl rfl rfl (ZG hS.w (c.ops.length) (by omega)) ?_ ?_
   rotate_left
   ·intro p H' n' h; cases h.1
   rintro rr G m hW9
   cases hW9.1
   have hS := hS.call hW9
   have r1 := hS.get (n) (.arr 0 17 [Zh c]) (by simp)
   have r4 := hS.get (kt) (.arr 0 5 [Zo c.kind]) (by simp)
   clear hW9
   apply Y; clear Y K
   refine Za zs [1, 3, 4, 77, 78, 79] fun K Y => ?_
   simp only [go_sem, seval, r1, Zh, Zo, List.length_map]
   apply Y; clear Y K
   refine Zj ?_
   refine Zz (fun T' H' n' => ∃ i : Nat, i ≤ c.ops.length ∧ T' = tl [(1, .loc n 0 0 0 []), (3, .loc (n + 1) 0 0 0 []), (4, .loc kt 0 0 0 []), (77, .sl 6 (c.ops.map opAV)), (78, .int .i64 c.ops.length), (79, .int .i64 i)] ∧ WS H n [(kt, .arr 0 5 [Zo c.kind]), (n, .arr 0 17 [Zh c])] (n + 1) (n + 2) (2300000000000 + 2100000 * i) (hdrB c ++ Zp c.row ++ Zm c.conds.length ++ c.conds.flatMap YB ++ Zm c.ops.length ++ (c.ops.take i).flatMap opB) H' n') (fun T' _ _ => c.ops.length - iv (T' 79)) ?_ ?_
   ·exact ⟨0, by omega, rfl, (hS.up (by have := hc.row; have := hc.conds; omega)).eq (by simp [huc, huo])⟩
   intro T1 H1 n1
   rintro ⟨i, hi, rfl, hS⟩
   refine Za zs [1, 3, 4, 77, 78, 79, 80] fun K Y => ?_
   simp only [go_sem, seval, Zh, Zo]
   apply Y; clear Y K
   refine Zb fun K4 hK4 => ?_
   refine Ze ?_ ?_ <;> intro hb
   ·have hlt : i < c.ops.length := by simpa using hb
    have hfl := Xd opB c.ops hlt
    have hmem := X8 c.ops hlt
    have hnth : nth (c.ops.map opAV) i = opAV (c.ops.getD i default) := ZF opAV c.ops i hlt
    generalize c.ops.getD i default = x at *
    have hx := hc.op x hmem
    have hil := hc.ops
    have hszx : (opAV x).sz = 6 := KV x
    have hagx : (opAV x).isAgg = true := rfl
    have hmox : (opAV x).memOK = true := rfl
    have r1 := hS.get (n) (.arr 0 17 [Zh c]) (by simp)
    have r4 := hS.get (kt) (.arr 0 5 [Zo c.kind]) (by simp)
    refine Zd ?_
    simp only [go_sem, seval, Zh, Zo]
    apply hK4
    clear hK4 K4
    refine Zb fun K5 hK5 => ?_
    refine Zj ?_
    refine Za zs [1, 3, 4, 8, 77, 78, 79] fun K Y => ?_
    simp only [go_sem, seval, Zh, Zo, List.length_map, Int.toNat_natCast, hnth, hszx, hagx, hmox]
    repeat refine peel ?_
    apply Y; clear Y K
    refine Yh (fun H' n' => WS H n [(n1, .arr 0 6 [opAV x]), (kt, .arr 0 5 [Zo c.kind]), (n, .arr 0 17 [Zh c])] (n + 1) (n + 2) (2300000000000 + 2100000 * i) (hdrB c ++ Zp c.row ++ Zm c.conds.length ++ c.conds.flatMap YB ++ Zm c.ops.length ++ (c.ops.take i).flatMap opB) H' n') ((hS.on (fun k hk => by simp only [MF]; repeat rw [if_neg (by omega)]) (by omega)).add (by simp [Heap.put]) (by have := hS.w.lw; omega) (by have := hS.w.lb; omega) (by omega)) fun H1 n1' hS => ?_
    generalize n1 = kx at *
    have r1 := hS.get (n) (.arr 0 17 [Zh c]) (by simp)
    have r4 := hS.get (kt) (.arr 0 5 [Zo c.kind]) (by simp)
    have r6 := hS.get (kx) (.arr 0 6 [opAV x]) (by simp)
    refine Za zs [1, 3, 4, 8, 77, 78, 79] fun K Y => ?_
    simp only [go_sem, seval, r6, Zh, Zo, opAV]
    refine Zi (args' := [.loc (n + 1) 0 0 0 [], .int .i64 (x.kind)]) func113 rfl rfl rfl (Ye hS.w (x.kind) (by omega)) ?_ ?_
    rotate_left
    ·intro p H' n' h; cases h.1
    rintro rr G m hW9
    cases hW9.1
    have hS := hS.call hW9
    have r1 := hS.get (n) (.arr 0 17 [Zh c]) (by simp)
    have r4 := hS.get (kt) (.arr 0 5 [Zo c.kind]) (by simp)
    have r6 := hS.get (kx) (.arr 0 6 [opAV x]) (by simp)
    clear hW9
    apply Y; clear Y K
    refine Za zs [1, 3, 4, 8, 77, 78, 79] fun K Y => ?_
    simp only [go_sem, seval, r6, Zh, Zo, opAV]
    refine Zi (args' := [.loc (n + 1) 0 0 0 [], .int .i64 (x.fam)]) func113 rfl rfl rfl (Ye hS.w (x.fam) (by omega)) ?_ ?_
    rotate_left
    ·intro p H' n' h; cases h.1
    rintro rr G m hW9
    cases hW9.1
    have hS := hS.call hW9
    have r1 := hS.get (n) (.arr 0 17 [Zh c]) (by simp)
    have r4 := hS.get (kt) (.arr 0 5 [Zo c.kind]) (by simp)
    have r6 := hS.get (kx) (.arr 0 6 [opAV x]) (by simp)
    clear hW9
    apply Y; clear Y K
    refine Za zs [1, 3, 4, 8, 77, 78, 79] fun K Y => ?_
    simp only [go_sem, seval, r6, Zh, Zo, opAV]
    refine Zi (args' := [.loc (n + 1) 0 0 0 [], bys (x.qual)]) func115 rfl rfl rfl (ZM hS.w (x.qual) (by omega) (by omega)) ?_ ?_
    rotate_left
    ·intro p H' n' h; cases h.1
    rintro rr G m hW9
    cases hW9.1
    have hS := hS.call hW9
    have r1 := hS.get (n) (.arr 0 17 [Zh c]) (by simp)
    have r4 := hS.get (kt) (.arr 0 5 [Zo c.kind]) (by simp)
    have r6 := hS.get (kx) (.arr 0 6 [opAV x]) (by simp)
    clear hW9
    apply Y; clear Y K
    refine Za zs [1, 3, 4, 8, 77, 78, 79] fun K Y => ?_
    simp only [go_sem, seval, r6, Zh, Zo, opAV]
    refine Zi (args' := [.loc (n + 1) 0 0 0 [], .int .i64 (x.ts)]) func114 rfl rfl rfl (ZG hS.w (x.ts) (by omega)) ?_ ?_
    rotate_left
    ·intro p H' n' h; cases h.1
    rintro rr G m hW9
    cases hW9.1
    have hS := hS.call hW9
    have r1 := hS.get (n) (.arr 0 17 [Zh c]) (by simp)
    have r4 := hS.get (kt) (.arr 0 5 [Zo c.kind]) (by simp)
    have r6 := hS.get (kx) (.arr 0 6 [opAV x]) (by simp)
    clear hW9
    apply Y; clear Y K
    refine Za zs [1, 3, 4, 8, 77, 78, 79] fun K Y => ?_
    simp only [go_sem, seval, r6, Zh, Zo, opAV]
    refine Zi (args' := [.loc (n + 1) 0 0 0 [], bys (x.value)]) func115 rfl rfl rfl (ZM hS.w (x.value) (by omega) (by omega)) ?_ ?_
    rotate_left
    ·intro p H' n' h; cases h.1
    rintro rr G m hW9
    cases hW9.1
    have hS := hS.call hW9
    have r1 := hS.get (n) (.arr 0 17 [Zh c]) (by simp)
    have r4 := hS.get (kt) (.arr 0 5 [Zo c.kind]) (by simp)
    have r6 := hS.get (kx) (.arr 0 6 [opAV x]) (by simp)
    clear hW9
    apply Y; clear Y K
    refine Zl zs [1, 3, 4, 77, 78, 79] fun K Y => ?_
    simp only [go_sem, seval, r6, Zh, Zo, opAV]
    refine Zi (args' := [.loc (n + 1) 0 0 0 [], .int .i64 (x.delta)]) func116 rfl rfl rfl (Qb hS.w (x.delta) (by omega)) ?_ ?_
    rotate_left
    ·intro p H' n' h; cases h.1
    rintro rr G m hW9
    cases hW9.1
    have hS := hS.call hW9
    have r1 := hS.get (n) (.arr 0 17 [Zh c]) (by simp)
    have r4 := hS.get (kt) (.arr 0 5 [Zo c.kind]) (by simp)
    have r6 := hS.get (kx) (.arr 0 6 [opAV x]) (by simp)
    clear hW9
    apply Y; clear Y K
    simp only [go_sem, seval, Zh, Zo]
    apply hK5
    clear hK5 K5
    refine Zl zs [1, 3, 4, 77, 78, 79] fun K Y => ?_
    simp only [go_sem, seval, Zh, Zo]
    apply Y; clear Y K
    simp only [go_sem, seval, Zh, Zo]
    refine ⟨⟨i + 1, by omega, by rw [w1 (by omega)], (hS.drop.up (by omega)).eq (by rw [hfl]; simp [opB])⟩, by rw [w1 (by omega)]; simp; omega⟩
   have hge : i = c.ops.length := by simp at hb; omega
   have hS := hS.eq (by rw [Xp opB c.ops (by omega)])
   have hil := hc.ops
   have r1 := hS.get (n) (.arr 0 17 [Zh c]) (by simp)
   have r4 := hS.get (kt) (.arr 0 5 [Zo c.kind]) (by simp)
   refine ZA ?_
   simp only [go_sem, seval, Zh, Zo]
   exact ⟨kt, rfl, hk3, (hS.up (by omega)).eq (by simp [mutB, hb5])⟩
  have hb5 : kOps c.kind = false := hb
  refine Zd ?_
  simp only [go_sem, seval, Zh, Zo]
  exact ⟨kt, rfl, hk3, (hS.up (by omega)).eq (by simp [mutB, hb5])⟩
 rintro T1 H1 n1 ⟨kt, rfl, hk3, hS⟩
 have r1 := hS.get (n) (.arr 0 17 [Zh c]) (by simp)
 have r4 := hS.get (kt) (.arr 0 5 [Zo c.kind]) (by simp)
 refine Yi [1, 3, 4] (fun T' H' n' => ∃ kt, T' = tl [(1, .loc n 0 0 0 []), (3, .loc (n + 1) 0 0 0 []), (4, .loc kt 0 0 0 [])] ∧ n + 3 ≤ kt ∧ WS H n [(kt, .arr 0 5 [Zo c.kind]), (n, .arr 0 17 [Zh c])] (n + 1) (n + 2) (7000000001000) (hdrB c ++ (if kOps c.kind then mutB c else []) ++ (if 0 ≤ Yn c.kind then Zm (u64 c.n) else [])) H' n') ?_ ?_
 ·refine Za zs [1, 3, 4, 110] fun K Y => ?_
  simp only [go_sem, seval, r4, Zh, Zo]
  apply Y; clear Y K
  refine Ze ?_ ?_ <;> intro hb
  ·have hb6 : 0 ≤ Yn c.kind := of_decide_eq_true hb
   refine Zl zs [1, 3, 4] fun K Y => ?_
   simp only [go_sem, seval, r1, Zh, Zo]
   refine Zi (args' := [.loc (n + 1) 0 0 0 [], .int .i64 (c.n)]) func114 rfl rfl rfl (ZG hS.w (c.n) (by omega)) ?_ ?_
   rotate_left
   ·intro p H' n' h; cases h.1
   rintro rr G m hW9
   cases hW9.1
   have hS := hS.call hW9
   have r1 := hS.get (n) (.arr 0 17 [Zh c]) (by simp)
   have r4 := hS.get (kt) (.arr 0 5 [Zo c.kind]) (by simp)
   clear hW9
   apply Y; clear Y K
   simp only [go_sem, seval, Zh, Zo]
   exact ⟨kt, rfl, hk3, (hS.up (by omega)).eq (by simp [hb6])⟩
  have hb6 : ¬ 0 ≤ Yn c.kind := of_decide_eq_false hb
  refine Zd ?_
  simp only [go_sem, seval, Zh, Zo]
  exact ⟨kt, rfl, hk3, (hS.up (by omega)).eq (by simp [hb6])⟩
 rintro T1 H1 n1 ⟨kt, rfl, hk3, hS⟩
 have r1 := hS.get (n) (.arr 0 17 [Zh c]) (by simp)
 have r4 := hS.get (kt) (.arr 0 5 [Zo c.kind]) (by simp)
 refine Yi [3] (fun T' H' n' => ∃ kt, T' = tl [(3, .loc (n + 1) 0 0 0 [])] ∧ n + 3 ≤ kt ∧ WS H n [(kt, .arr 0 5 [Zo c.kind]), (n, .arr 0 17 [Zh c])] (n + 1) (n + 2) (7000100000000) (cmdB c) H' n') ?_ ?_
 ·refine Za zs [1, 3, 116] fun K Y => ?_
  simp only [go_sem, seval, r4, Zh, Zo]
  apply Y; clear Y K
  refine Ze ?_ ?_ <;> intro hb
  ·have hb7 : Yd c.kind = true := hb
   refine Za zs [3, 9] fun K Y => ?_
   simp only [go_sem, seval, r1, hszq, hagq, hmoq, Zh, Zo]
   apply Y; clear Y K
   refine Yh (fun H' n' => WS H n [(n1, .arr 0 10 [Zq c.q]), (kt, .arr 0 5 [Zo c.kind]), (n, .arr 0 17 [Zh c])] (n + 1) (n + 2) (7000000001000) (hdrB c ++ (if kOps c.kind then mutB c else []) ++ (if 0 ≤ Yn c.kind then Zm (u64 c.n) else [])) H' n') ((hS.on (fun k hk => by simp only [MF]; repeat rw [if_neg (by omega)]) (by omega)).add (by simp [Heap.put, Zq]) (by have := hS.w.lw; omega) (by have := hS.w.lb; omega) (by omega)) fun H1 n1' hS => ?_
   generalize n1 = kq at *
   have r1 := hS.get (n) (.arr 0 17 [Zh c]) (by simp)
   have r4 := hS.get (kt) (.arr 0 5 [Zo c.kind]) (by simp)
   have r6 := hS.get (kq) (.arr 0 10 [Zq c.q]) (by simp)
   refine Za zs [3, 9] fun K Y => ?_
   simp only [go_sem, seval, r6, Zh, Zo, Zq, Zr]
   refine Zi (args' := [.loc (n + 1) 0 0 0 [], bys (c.q.frm)]) func115 rfl rfl rfl (ZM hS.w (c.q.frm) (by have := hc.frm; omega) (by have := hc.frm; omega)) ?_ ?_
   rotate_left
   ·intro p H' n' h; cases h.1
   rintro rr G m hW9
   cases hW9.1
   have hS := hS.call hW9
   have r1 := hS.get (n) (.arr 0 17 [Zh c]) (by simp)
   have r4 := hS.get (kt) (.arr 0 5 [Zo c.kind]) (by simp)
   have r6 := hS.get (kq) (.arr 0 10 [Zq c.q]) (by simp)
   clear hW9
   apply Y; clear Y K
   refine Za zs [3, 9] fun K Y => ?_
   simp only [go_sem, seval, r6, Zh, Zo, Zq, Zr]
   refine Zi (args' := [.loc (n + 1) 0 0 0 [], bys (c.q.to)]) func115 rfl rfl rfl (ZM hS.w (c.q.to) (by have := hc.to; omega) (by have := hc.frm; have := hc.to; omega)) ?_ ?_
   rotate_left
   ·intro p H' n' h; cases h.1
   rintro rr G m hW9
   cases hW9.1
   have hS := hS.call hW9
   have r1 := hS.get (n) (.arr 0 17 [Zh c]) (by simp)
   have r4 := hS.get (kt) (.arr 0 5 [Zo c.kind]) (by simp)
   have r6 := hS.get (kq) (.arr 0 10 [Zq c.q]) (by simp)
   clear hW9
   apply Y; clear Y K
   refine Za zs [3, 9] fun K Y => ?_
   simp only [go_sem, seval, r6, Zh, Zo, List.length_map, Zq, Zr]
   refine Zi (args' := [.loc (n + 1) 0 0 0 [], .int .i64 (c.q.fams.length)]) func114 rfl rfl rfl (ZG hS.w (c.q.fams.length) (by have := hc.frm; have := hc.to; omega)) ?_ ?_
   rotate_left
   ·intro p H' n' h; cases h.1
   rintro rr G m hW9
   cases hW9.1
   have hS := hS.call hW9
   have r1 := hS.get (n) (.arr 0 17 [Zh c]) (by simp)
   have r4 := hS.get (kt) (.arr 0 5 [Zo c.kind]) (by simp)
   have r6 := hS.get (kq) (.arr 0 10 [Zq c.q]) (by simp)
   clear hW9
   apply Y; clear Y K
   refine Zb fun K6 hK6 => ?_
   refine Za zs [3, 9, 133, 134, 135] fun K Y => ?_
   simp only [go_sem, seval, r6, Zh, Zo, List.length_map, Zq, Zr]
   apply Y; clear Y K
   refine Zj ?_
   refine Zz (fun T' H' n' => ∃ i : Nat, i ≤ c.q.fams.length ∧ T' = tl [(3, .loc (n + 1) 0 0 0 []), (9, .loc kq 0 0 0 []), (133, .sl 1 (c.q.fams.map fun n => .int .i64 n)), (134, .int .i64 c.q.fams.length), (135, .int .i64 i)] ∧ WS H n [(kq, .arr 0 10 [Zq c.q]), (kt, .arr 0 5 [Zo c.kind]), (n, .arr 0 17 [Zh c])] (n + 1) (n + 2) (7000010000000 + 10 * i) (hdrB c ++ (if kOps c.kind then mutB c else []) ++ (if 0 ≤ Yn c.kind then Zm (u64 c.n) else []) ++ Zp c.q.frm ++ Zp c.q.to ++ Zm c.q.fams.length ++ (c.q.fams.take i).flatMap fun f => Zm (u64 f)) H' n') (fun T' _ _ => c.q.fams.length - iv (T' 135)) ?_ ?_
   ·exact ⟨0, by omega, rfl, (hS.up (by have := hc.frm; have := hc.to; omega)).eq (by simp [huf])⟩
   intro T1 H1 n1
   rintro ⟨i, hi, rfl, hS⟩
   refine Za zs [3, 9, 133, 134, 135, 136] fun K Y => ?_
   simp only [go_sem, seval, Zh, Zo, Zq, Zr]
   apply Y; clear Y K
   refine Zb fun K7 hK7 => ?_
   refine Ze ?_ ?_ <;> intro hb
   ·have hlt : i < c.q.fams.length := by simpa using hb
    have hil := hc.fams
    have hfl := Xd (fun f => Zm (u64 f)) c.q.fams hlt
    have hnth : nth (c.q.fams.map fun n => AV.int .i64 n) i = .int .i64 (c.q.fams.getD i default) := ZF (fun n => AV.int .i64 n) c.q.fams i hlt
    have r1 := hS.get (n) (.arr 0 17 [Zh c]) (by simp)
    have r4 := hS.get (kt) (.arr 0 5 [Zo c.kind]) (by simp)
    have r6 := hS.get (kq) (.arr 0 10 [Zq c.q]) (by simp)
    refine Zd ?_
    simp only [go_sem, seval, Zh, Zo]
    apply hK7
    clear hK7 K7
    refine Zb fun K8 hK8 => ?_
    refine Zj ?_
    refine Za zs [3, 9, 11, 133, 134, 135] fun K Y => ?_
    simp only [go_sem, seval, Zh, Zo, List.length_map, Zq, Zr, Int.toNat_natCast, hnth]
    repeat refine peel ?_
    apply Y; clear Y K
    refine Zl zs [3, 9, 133, 134, 135] fun K Y => ?_
    simp only [go_sem, seval, Zh, Zo, Zq, Zr]
    refine Zi (args' := [.loc (n + 1) 0 0 0 [], .int .i64 (c.q.fams.getD i default)]) func114 rfl rfl rfl (ZG hS.w (c.q.fams.getD i default) (by omega)) ?_ ?_
    rotate_left
    ·intro p H' n' h; cases h.1
    rintro rr G m hW9
    cases hW9.1
    have hS := hS.call hW9
    have r1 := hS.get (n) (.arr 0 17 [Zh c]) (by simp)
    have r4 := hS.get (kt) (.arr 0 5 [Zo c.kind]) (by simp)
    have r6 := hS.get (kq) (.arr 0 10 [Zq c.q]) (by simp)
    clear hW9
    apply Y; clear Y K
    simp only [go_sem, seval, Zh, Zo]
    apply hK8
    clear hK8 K8
    refine Zl zs [3, 9, 133, 134, 135] fun K Y => ?_
    simp only [go_sem, seval, Zh, Zo, Zq, Zr]
    apply Y; clear Y K
    simp only [go_sem, seval, Zh, Zo]
    refine ⟨⟨i + 1, by omega, by rw [w1 (by omega)], (hS.up (by omega)).eq (by rw [hfl]; simp)⟩, by rw [w1 (by omega)]; simp; omega⟩
   have hge : i = c.q.fams.length := by simp at hb; omega
   have hil := hc.fams
   have hS := hS.eq (by rw [Xp (fun f => Zm (u64 f)) c.q.fams (by omega)])
   have r1 := hS.get (n) (.arr 0 17 [Zh c]) (by simp)
   have r4 := hS.get (kt) (.arr 0 5 [Zo c.kind]) (by simp)
   have r6 := hS.get (kq) (.arr 0 10 [Zq c.q]) (by simp)
   refine ZA ?_
   simp only [go_sem, seval, Zh, Zo]
   apply hK6
   refine Za zs [3, 9] fun K Y => ?_
   simp only [go_sem, seval, r6, Zh, Zo, Zq, Zr]
   refine Zi (args' := [.loc (n + 1) 0 0 0 [], bys (c.q.pre)]) func115 rfl rfl rfl (ZM hS.w (c.q.pre) (by have := hc.pre; have := hc.whr; have := hc.token; omega) (by have := hc.pre; have := hc.whr; have := hc.token; omega)) ?_ ?_
   rotate_left
   ·intro p H' n' h; cases h.1
   rintro rr G m hW9
   cases hW9.1
   have hS := hS.call hW9
   have r1 := hS.get (n) (.arr 0 17 [Zh c]) (by simp)
   have r4 := hS.get (kt) (.arr 0 5 [Zo c.kind]) (by simp)
   have r6 := hS.get (kq) (.arr 0 10 [Zq c.q]) (by simp)
   clear hW9
   apply Y; clear Y K
   refine Za zs [3, 9] fun K Y => ?_
   simp only [go_sem, seval, r6, Zh, Zo, Zq, Zr]
   refine Zi (args' := [.loc (n + 1) 0 0 0 [], .int .i64 (c.q.time)]) func114 rfl rfl rfl (ZG hS.w (c.q.time) (by have := hc.pre; have := hc.whr; have := hc.token; omega)) ?_ ?_
   rotate_left
   ·intro p H' n' h; cases h.1
   rintro rr G m hW9
   cases hW9.1
   have hS := hS.call hW9
   have r1 := hS.get (n) (.arr 0 17 [Zh c]) (by simp)
   have r4 := hS.get (kt) (.arr 0 5 [Zo c.kind]) (by simp)
   have r6 := hS.get (kq) (.arr 0 10 [Zq c.q]) (by simp)
   clear hW9
   apply Y; clear Y K
   refine Za zs [3, 9] fun K Y => ?_
   simp only [go_sem, seval, r6, Zh, Zo, Zq, Zr]
   refine Zi (args' := [.loc (n + 1) 0 0 0 [], .int .i64 (c.q.n)]) func114 rfl rfl rfl (ZG hS.w (c.q.n) (by have := hc.pre; have := hc.whr; have := hc.token; omega)) ?_ ?_
   rotate_left
   ·intro p H' n' h; cases h.1
   rintro rr G m hW9
   cases hW9.1
   have hS := hS.call hW9
   have r1 := hS.get (n) (.arr 0 17 [Zh c]) (by simp)
   have r4 := hS.get (kt) (.arr 0 5 [Zo c.kind]) (by simp)
   have r6 := hS.get (kq) (.arr 0 10 [Zq c.q]) (by simp)
   clear hW9
   apply Y; clear Y K
   refine Za zs [3, 9] fun K Y => ?_
   simp only [go_sem, seval, r6, Zh, Zo, Zq, Zr]
   refine Zi (args' := [.loc (n + 1) 0 0 0 [], .int .i64 (c.q.rows)]) func114 rfl rfl rfl (ZG hS.w (c.q.rows) (by have := hc.pre; have := hc.whr; have := hc.token; omega)) ?_ ?_
   rotate_left
   ·intro p H' n' h; cases h.1
   rintro rr G m hW9
   cases hW9.1
   have hS := hS.call hW9
   have r1 := hS.get (n) (.arr 0 17 [Zh c]) (by simp)
   have r4 := hS.get (kt) (.arr 0 5 [Zo c.kind]) (by simp)
   have r6 := hS.get (kq) (.arr 0 10 [Zq c.q]) (by simp)
   clear hW9
   apply Y; clear Y K
   refine Za zs [3, 9] fun K Y => ?_
   simp only [go_sem, seval, r6, Zh, Zo, Zq, Zr]
   refine Zi (args' := [.loc (n + 1) 0 0 0 [], .bool (c.q.rev)]) func117 rfl rfl rfl (XY hS.w (c.q.rev) (by have := hc.pre; have := hc.whr; have := hc.token; omega)) ?_ ?_
   rotate_left
   ·intro p H' n' h; cases h.1
   rintro rr G m hW9
   cases hW9.1
   have hS := hS.call hW9
   have r1 := hS.get (n) (.arr 0 17 [Zh c]) (by simp)
   have r4 := hS.get (kt) (.arr 0 5 [Zo c.kind]) (by simp)
   have r6 := hS.get (kq) (.arr 0 10 [Zq c.q]) (by simp)
   clear hW9
   apply Y; clear Y K
   refine Za zs [3, 9] fun K Y => ?_
   simp only [go_sem, seval, r6, Zh, Zo, Zq, Zr]
   refine Zi (args' := [.loc (n + 1) 0 0 0 [], bys (c.q.whr)]) func115 rfl rfl rfl (ZM hS.w (c.q.whr) (by have := hc.pre; have := hc.whr; have := hc.token; omega) (by have := hc.pre; have := hc.whr; have := hc.token; omega)) ?_ ?_
   rotate_left
   ·intro p H' n' h; cases h.1
   rintro rr G m hW9
   cases hW9.1
   have hS := hS.call hW9
   have r1 := hS.get (n) (.arr 0 17 [Zh c]) (by simp)
   have r4 := hS.get (kt) (.arr 0 5 [Zo c.kind]) (by simp)
   have r6 := hS.get (kq) (.arr 0 10 [Zq c.q]) (by simp)
   clear hW9
   apply Y; clear Y K
   refine Zl zs [3] fun K Y => ?_
   simp only [go_sem, seval, r6, Zh, Zo, Zq, Zr]
   refine Zi (args' := [.loc (n + 1) 0 0 0 [], bys (c.q.token)]) func115 rfl rfl rfl (ZM hS.w (c.q.token) (by have := hc.pre; have := hc.whr; have := hc.token; omega) (by have := hc.pre; have := hc.whr; have := hc.token; omega)) ?_ ?_
   rotate_left
   ·intro p H' n' h; cases h.1
   rintro rr G m hW9
   cases hW9.1
   have hS := hS.call hW9
   have r1 := hS.get (n) (.arr 0 17 [Zh c]) (by simp)
   have r4 := hS.get (kt) (.arr 0 5 [Zo c.kind]) (by simp)
   have r6 := hS.get (kq) (.arr 0 10 [Zq c.q]) (by simp)
   clear hW9
   apply Y; clear Y K
   simp only [go_sem, seval, Zh, Zo]
   exact ⟨kt, hk3, (hS.drop.up (by have := hc.fams; have := hc.frm; have := hc.to; have := hc.pre; have := hc.whr; have := hc.token; omega)).eq (by rw [VT h1 h7, hb7, if_pos rfl]; simp only [qryB, List.append_assoc])⟩
  have hb7 : Yd c.kind = false := hb
  refine Zd ?_
  simp only [go_sem, seval, Zh, Zo]
  exact ⟨kt, hk3, (hS.up (by omega)).eq (by rw [VT h1 h7, hb7]; simp)⟩
 rintro T1 H1 n1 ⟨kt, rfl, hk3, hS⟩
 have r1 := hS.get (n) (.arr 0 17 [Zh c]) (by simp)
 have r4 := hS.get (kt) (.arr 0 5 [Zo c.kind]) (by simp)
 obtain ⟨ver, hw1, hw2⟩ := hS.out
 refine Za zs [2] fun K Y => ?_
 simp only [go_sem, seval, hw1]
 apply Y; clear Y K
 refine Zf ?_
 simp only [go_sem, seval]
 exact ⟨ver, rfl, hw2, by have := hS.w.lb; omega, hS.low⟩
theorem c_cell_named (s : List UInt8) (H : Heap) (n : Nat) : Ret prog 103 [.str s] H n (.bool (Xq s)) H n := by
 refine Zc func103 rfl ntmps103 (congrArg Array.toList results103) (by simp) ?_
 simp only [go_sem]
 refine ZE zs [0] ?_
 refine Zb fun K1 hK1 => ?_
 refine Za zs [0, 13] fun K Y => ?_
 simp only [go_sem, seval]
 refine Zg func102 rfl rfl rfl ((by apply WB <;> first | assumption | omega)) ?_
 simp only [go_sem, seval]
 repeat (first | refine peel ?_ | refine ⟨by (intro h; simp [bout] at h; omega), ?_⟩)
 refine Zv func138 rfl rfl rfl (fun _ => (by apply QL <;> first | assumption | omega)) ?_
 simp only [go_sem, seval]
 repeat refine peel ?_
 apply Y; clear Y K
 refine Ze ?_ ?_ <;> intro hb
 ·refine Za zs [2] fun K Y => ?_
  simp only [go_sem, implies_true, true_and, and_true, List.map_cons, List.map_nil, ↓reduceIte, Nat.reduceLT]
  refine Y _ _ _ (Zf ?_)
  simp only [go_sem, ↓reduceIte, implies_true, true_and, and_true]
  cases h1 : bout s.length 1 32 <;> simp_all [Xq]
  --dead
 have h13 : bout s.length 1 32 = false ∧ XF (s.getD 0 0) = true := by cases h1 : bout s.length 1 32 <;> simp_all
 have hlen := Wn h13.1
 refine Zd ?_
 simp only [go_sem, seval]
 apply hK1
 clear hK1 K1
 refine Zb fun K2 hK2 => ?_
 refine ZE zs [0, 15, 16] ?_
 refine Zj ?_
 refine Zz (fun T' H' n' => ∃ i : Nat, i ≤ s.length ∧ T' = tl [(0, .str s), (15, .int .i64 s.length), (16, .int .i64 i)] ∧ H' = H ∧ n' = n ∧ (s.drop i).all WZ = s.all WZ) (fun T' _ _ => s.length - iv (T' 16)) ?_ ?_
 ·exact ⟨0, Nat.zero_le _, rfl, rfl, rfl, by simp⟩
 intro T1 H1 n1
 rintro ⟨i, hi, rfl, rfl, rfl, hall⟩
 refine ZE zs [0, 15, 16, 17] ?_
 refine Zb fun K3 hK3 => ?_
 refine Ze ?_ ?_ <;> intro hb
 ·have hlt : i < s.length := by simpa using hb
  rw [ZZ s i hlt, List.all_cons] at hall
  refine Zd ?_
  simp only [go_sem, seval]
  apply hK3
  clear hK3 K3
  refine Zb fun K4 hK4 => ?_
  refine Zj ?_
  refine ZE zs [0, 3, 15, 16] ?_
  refine ZE zs [0, 4, 15, 16] ?_
  refine Za zs [0, 15, 16, 36] fun K Y => ?_
  simp only [go_sem, seval]
  refine Zg func138 rfl rfl rfl ((by apply QL <;> first | assumption | omega)) ?_
  simp only [go_sem, seval]
  repeat refine peel ?_
  apply Y; clear Y K
  refine Ze ?_ ?_ <;> intro hb
  ·have hc : WZ (s.getD i 0) = false := by unfold WZ; exact congrArg (!·) hb
   have hend : Xq s = false := by
     have : s.all WZ = false := by rw [← hall]; show (WZ (s.getD i 0) && _) = false; rw [hc]; rfl
     simp [Xq, this]
   refine ZE zs [2] ?_
   refine Zf ?_
   simp only [go_sem, seval]
   rw [hend]
  have hc : WZ (s.getD i 0) = true := by unfold WZ; exact congrArg (!·) hb
  refine Zd ?_
  simp only [go_sem, seval]
  apply hK4
  clear hK4 K4
  refine Zl zs [0, 15, 16] fun K Y => ?_
  simp only [go_sem, seval]
  apply Y; clear Y K
  simp only [go_sem, seval]
  refine ⟨⟨i + 1, by omega, by rw [w1 (by omega)], ?_⟩, by rw [w1 (by omega)]; simp; omega⟩
  rw [← hall]; show _ = (WZ (s.getD i 0) && _); rw [hc]; rfl
 have hge : i = s.length := by simp at hb; omega
 have hend : Xq s = true := by
   have : s.all WZ = true := by rw [← hall, hge]; simp
   simp only [Xq, this, h13.1, h13.2]; rfl
 refine ZA ?_
 simp only [go_sem, seval]
 apply hK2
 refine ZE zs [2] ?_
 refine Zf ?_
 simp only [go_sem, seval]
 rw [hend]
theorem Ub (s : List Fml) (name : List UInt8) (hl : s.length ≤ 1048576) (H : Heap) (n : Nat) : Ret prog 104 [Zt s, .str name] H n (.int .i64 (VH s name 0)) H n := by
 refine Ret.fin ?_
 refine Zc func104 rfl ntmps104 (congrArg Array.toList results104) (by simp) ?_
 simp only [go_sem]
 refine ZE zs [1, 2] ?_
 refine Zb fun K1 hK1 => ?_
 refine ZE zs [1, 8, 9, 10] ?_
 refine Zj ?_
 refine Zz (fun T' H' n' => ∃ i : Nat, i ≤ s.length ∧ T' = tl [(1, .str name), (8, .sl 3 (s.map XG)), (9, .int .i64 s.length), (10, .int .i64 i)] ∧ n ≤ n' ∧ (∀ k, k < n → H' k = H k) ∧ VH (s.drop i) name i = VH s name 0) (fun T' _ _ => s.length - iv (T' 10)) ?_ ?_
 ·refine ⟨0, Nat.zero_le _, by rw [List.length_map]; rfl, by omega, ?_, rfl⟩
  intro k hk; have h0 : k ≠ n := by omega
  simp [Heap.put, h0]
 intro T1 H1 n1
 rintro ⟨i, hi, rfl, hn, hH, hix⟩
 refine ZE zs [1, 8, 9, 10, 11] ?_
 refine Zb fun K2 hK2 => ?_
 refine Ze ?_ ?_ <;> intro hb
 ·have hlt : i < s.length := by simpa using hb
  rw [ZZ s i hlt, VH] at hix
  refine Zd ?_
  simp only [go_sem, seval]
  apply hK2
  clear hK2 K2
  refine Zb fun K3 hK3 => ?_
  refine Zj ?_
  have hnth : nth (s.map XG) i = XG (s.getD i default) := ZF XG s i hlt
  refine Za zs [1, 5, 6, 8, 9, 10] fun K Y => ?_
  simp only [go_sem, seval, Int.toNat_natCast, hnth]
  repeat refine peel ?_
  apply Y; clear Y K
  refine Za zs [1, 5, 8, 9, 10, 18] fun K Y => ?_
  simp only [go_sem, seval, Int.toNat_natCast]
  apply Y; clear Y K
  refine Ze ?_ ?_ <;> intro hb
  ·have he : (s.getD i default).name = name := by simpa using hb
   rw [if_pos he] at hix
   refine ZE zs [4] ?_
   refine Zf ?_
   simp only [go_sem, seval]
   refine ⟨_, rfl, ?_, Frz.eq ?_ trivial⟩
   ·intro k hk; have h0 : k ≠ n1 := by omega
    simp [Heap.put, h0, hH k hk]
   rw [← hix]
  have he : ¬ (s.getD i default).name = name := by simpa using hb
  rw [if_neg he] at hix
  refine Zd ?_
  simp only [go_sem, seval]
  apply hK3
  clear hK3 K3
  refine Zl zs [1, 8, 9, 10] fun K Y => ?_
  simp only [go_sem, seval]
  apply Y; clear Y K
  simp only [go_sem, seval]
  refine ⟨⟨i + 1, by omega, by rw [w1 (by omega)], by omega, ?_, hix⟩, by rw [w1 (by omega)]; simp; omega⟩
  intro k hk; have h0 : k ≠ n1 := by omega
  simp [h0, hH k hk]
 have hge : i = s.length := by simp at hb; omega
 have hix : (-1 : Int) = VH s name 0 := by rw [← hix, hge]; simp [VH]
 refine ZA ?_
 simp only [go_sem, seval]
 apply hK1
 refine ZE zs [4] ?_
 refine Zf ?_
 simp only [go_sem, seval]
 refine ⟨_, rfl, ?_, Frz.eq ?_ trivial⟩
 ·intro k hk; have h0 : k ≠ n1 := by omega
  simp [Heap.put, h0, hH k hk]
 rw [← hix]
theorem Vg (a b : List UInt8) (H : Heap) (n : Nat) : Ret prog 141 [bys a, bys b] H n (.int .i64 (Lib.compareBytes a b)) H n := by
 refine Zc func141 rfl ntmps141 (congrArg Array.toList results141) (by simp) ?_
 simp only [go_sem]
 refine ZE zs [0, 1] ?_
 refine Za zs [4] fun K Y => ?_
 simp only [go_sem, seval]
 refine .inr (J8 func159 rfl rfl (by decide) rfl a b ?_)
 simp only [go_sem, seval]
 apply Y; clear Y K
 refine Zf ?_
 simp only [go_sem, seval]
end Go.Proofs.YtifnhpmeoogedaaGreatDoor