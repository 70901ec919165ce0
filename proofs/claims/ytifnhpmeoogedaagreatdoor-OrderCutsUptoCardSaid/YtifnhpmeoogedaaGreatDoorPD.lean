/- Own layer 'Sx', part I: the walk's set of equations. Of every program; no condition. -/
import Derived.Test.YtifnhpmeoogedaaGreatDoorPC
import Derived.Lib.BytesEntry
import Derived.Lib.Bytealg
import Derived.ChangeArms
import Derived.OpenShut
import Derived.ChangeOld
import Derived.JoinedCond
import Derived.WalkKit
import Derived.ProofKit
import Derived.Test.YtifnhpmeoogedaaGreatDoorRows
set_option linter.unusedSimpArgs false
set_option linter.unusedVariables false
namespace Go.Sx
open Go
section
variable (P : Program) (z : TypeId → AV) (N : Nat) (ops : Array Oper) (T : Nat → AV) (H : Heap) (n : Nat) (Q : AEx → (Nat → AV) → Heap → Nat → Prop) (dst : Option Tmp) (ty : TypeId) (pos : String) (after : Array Edge) (os : List Oper) (j : Nat) (bb : Bool)
theorem er_move (x : Operand) : erun P z N ops (⟨dst, .move x, ty, pos, after, none⟩ :: os) T H n Q = (dOK N dst ∧ cont (opQ P z H true T (.move x)) fun r => erun P z N ops os (tput T dst r) H n Q) := rfl
theorem erg_move (x : Operand) : erun P z N ops (⟨dst, .move x, ty, pos, after, some (j, bb)⟩ :: os) T H n Q = (dOK N dst ∧ Yc ((gtmp ops j).bind fun t => gval (T t) bb) fun g => Xf g (opQ P z H g T (.move x)) fun r => erun P z N ops os (tput T dst r) H n Q) := rfl
theorem er_assign (x : Operand) : erun P z N ops (⟨dst, .assign x, ty, pos, after, none⟩ :: os) T H n Q = (dOK N dst ∧ cont (opQ P z H true T (.assign x)) fun r => erun P z N ops os (tput T dst r) H n Q) := rfl
theorem erg_assign (x : Operand) : erun P z N ops (⟨dst, .assign x, ty, pos, after, some (j, bb)⟩ :: os) T H n Q = (dOK N dst ∧ Yc ((gtmp ops j).bind fun t => gval (T t) bb) fun g => Xf g (opQ P z H g T (.assign x)) fun r => erun P z N ops os (tput T dst r) H n Q) := rfl
theorem er_pick (c a b : Operand) : erun P z N ops (⟨dst, .pick c a b, ty, pos, after, none⟩ :: os) T H n Q = (dOK N dst ∧ cont (opQ P z H true T (.pick c a b)) fun r => erun P z N ops os (tput T dst r) H n Q) := rfl
theorem erg_pick (c a b : Operand) : erun P z N ops (⟨dst, .pick c a b, ty, pos, after, some (j, bb)⟩ :: os) T H n Q = (dOK N dst ∧ Yc ((gtmp ops j).bind fun t => gval (T t) bb) fun g => Xf g (opQ P z H g T (.pick c a b)) fun r => erun P z N ops os (tput T dst r) H n Q) := rfl
theorem er_fieldAddr (t : TypeId) (x : Operand) (f : Nat) : erun P z N ops (⟨dst, .fieldAddr t x f, ty, pos, after, none⟩ :: os) T H n Q = (dOK N dst ∧ cont (opQ P z H true T (.fieldAddr t x f)) fun r => erun P z N ops os (tput T dst r) H n Q) := rfl
theorem erg_fieldAddr (t : TypeId) (x : Operand) (f : Nat) : erun P z N ops (⟨dst, .fieldAddr t x f, ty, pos, after, some (j, bb)⟩ :: os) T H n Q = (dOK N dst ∧ Yc ((gtmp ops j).bind fun t => gval (T t) bb) fun g => Xf g (opQ P z H g T (.fieldAddr t x f)) fun r => erun P z N ops os (tput T dst r) H n Q) := rfl
theorem er_load (t : TypeId) (x : Operand) : erun P z N ops (⟨dst, .load t x, ty, pos, after, none⟩ :: os) T H n Q = (dOK N dst ∧ cont (opQ P z H true T (.load t x)) fun r => erun P z N ops os (tput T dst r) H n Q) := rfl
theorem erg_load (t : TypeId) (x : Operand) : erun P z N ops (⟨dst, .load t x, ty, pos, after, some (j, bb)⟩ :: os) T H n Q = (dOK N dst ∧ Yc ((gtmp ops j).bind fun t => gval (T t) bb) fun g => Xf g (opQ P z H g T (.load t x)) fun r => erun P z N ops os (tput T dst r) H n Q) := rfl
theorem er_indexAddr (t : TypeId) (x i : Operand) : erun P z N ops (⟨dst, .indexAddr t x i, ty, pos, after, none⟩ :: os) T H n Q = (dOK N dst ∧ cont (opQ P z H true T (.indexAddr t x i)) fun r => erun P z N ops os (tput T dst r) H n Q) := rfl
theorem erg_indexAddr (t : TypeId) (x i : Operand) : erun P z N ops (⟨dst, .indexAddr t x i, ty, pos, after, some (j, bb)⟩ :: os) T H n Q = (dOK N dst ∧ Yc ((gtmp ops j).bind fun t => gval (T t) bb) fun g => Xf g (opQ P z H g T (.indexAddr t x i)) fun r => erun P z N ops os (tput T dst r) H n Q) := rfl
theorem er_index (t : TypeId) (x i : Operand) : erun P z N ops (⟨dst, .index t x i, ty, pos, after, none⟩ :: os) T H n Q = (dOK N dst ∧ cont (opQ P z H true T (.index t x i)) fun r => erun P z N ops os (tput T dst r) H n Q) := rfl
theorem erg_index (t : TypeId) (x i : Operand) : erun P z N ops (⟨dst, .index t x i, ty, pos, after, some (j, bb)⟩ :: os) T H n Q = (dOK N dst ∧ Yc ((gtmp ops j).bind fun t => gval (T t) bb) fun g => Xf g (opQ P z H g T (.index t x i)) fun r => erun P z N ops os (tput T dst r) H n Q) := rfl
theorem er_field (t : TypeId) (x : Operand) (f : Nat) : erun P z N ops (⟨dst, .field t x f, ty, pos, after, none⟩ :: os) T H n Q = (dOK N dst ∧ cont (opQ P z H true T (.field t x f)) fun r => erun P z N ops os (tput T dst r) H n Q) := rfl
theorem erg_field (t : TypeId) (x : Operand) (f : Nat) : erun P z N ops (⟨dst, .field t x f, ty, pos, after, some (j, bb)⟩ :: os) T H n Q = (dOK N dst ∧ Yc ((gtmp ops j).bind fun t => gval (T t) bb) fun g => Xf g (opQ P z H g T (.field t x f)) fun r => erun P z N ops os (tput T dst r) H n Q) := rfl
theorem er_binOp (o : BinOp) (t : TypeId) (x y : Operand) (t' : TypeId) : erun P z N ops (⟨dst, .binOp o t x y t', ty, pos, after, none⟩ :: os) T H n Q = (dOK N dst ∧ cont (opQ P z H true T (.binOp o t x y t')) fun r => erun P z N ops os (tput T dst r) H n Q) := rfl
theorem erg_binOp (o : BinOp) (t : TypeId) (x y : Operand) (t' : TypeId) : erun P z N ops (⟨dst, .binOp o t x y t', ty, pos, after, some (j, bb)⟩ :: os) T H n Q = (dOK N dst ∧ Yc ((gtmp ops j).bind fun t => gval (T t) bb) fun g => Xf g (opQ P z H g T (.binOp o t x y t')) fun r => erun P z N ops os (tput T dst r) H n Q) := rfl
theorem er_unOp (o : UnOp) (t : TypeId) (x : Operand) : erun P z N ops (⟨dst, .unOp o t x, ty, pos, after, none⟩ :: os) T H n Q = (dOK N dst ∧ cont (opQ P z H true T (.unOp o t x)) fun r => erun P z N ops os (tput T dst r) H n Q) := rfl
theorem erg_unOp (o : UnOp) (t : TypeId) (x : Operand) : erun P z N ops (⟨dst, .unOp o t x, ty, pos, after, some (j, bb)⟩ :: os) T H n Q = (dOK N dst ∧ Yc ((gtmp ops j).bind fun t => gval (T t) bb) fun g => Xf g (opQ P z H g T (.unOp o t x)) fun r => erun P z N ops os (tput T dst r) H n Q) := rfl
theorem er_nilCheck (x : Operand) : erun P z N ops (⟨dst, .nilCheck x, ty, pos, after, none⟩ :: os) T H n Q = (dOK N dst ∧ cont (opQ P z H true T (.nilCheck x)) fun r => erun P z N ops os (tput T dst r) H n Q) := rfl
theorem erg_nilCheck (x : Operand) : erun P z N ops (⟨dst, .nilCheck x, ty, pos, after, some (j, bb)⟩ :: os) T H n Q = (dOK N dst ∧ Yc ((gtmp ops j).bind fun t => gval (T t) bb) fun g => Xf g (opQ P z H g T (.nilCheck x)) fun r => erun P z N ops os (tput T dst r) H n Q) := rfl
theorem er_extract (x : Operand) (i : Nat) : erun P z N ops (⟨dst, .extract x i, ty, pos, after, none⟩ :: os) T H n Q = (dOK N dst ∧ cont (opQ P z H true T (.extract x i)) fun r => erun P z N ops os (tput T dst r) H n Q) := rfl
theorem erg_extract (x : Operand) (i : Nat) : erun P z N ops (⟨dst, .extract x i, ty, pos, after, some (j, bb)⟩ :: os) T H n Q = (dOK N dst ∧ Yc ((gtmp ops j).bind fun t => gval (T t) bb) fun g => Xf g (opQ P z H g T (.extract x i)) fun r => erun P z N ops os (tput T dst r) H n Q) := rfl
theorem er_convert (s d : TypeId) (x : Operand) : erun P z N ops (⟨dst, .convert s d x, ty, pos, after, none⟩ :: os) T H n Q = (dOK N dst ∧ if s = d then Xe (wCv P z H n T s d x (evO T x)) fun r H' n' => erun P z N ops os (tput T dst r) H' n' Q else cont (opQ P z H true T (.convert s d x)) fun r => erun P z N ops os (tput T dst r) H n Q) := by
 by_cases h : s = d
 ·rw [if_pos h, erun_w (by simp [WO, h])]; rfl
 ·rw [if_neg h, erun_q (by simp [WO, h])]
theorem erg_convert (s d : TypeId) (x : Operand) (h : s ≠ d) : erun P z N ops (⟨dst, .convert s d x, ty, pos, after, some (j, bb)⟩ :: os) T H n Q = (dOK N dst ∧ Yc ((gtmp ops j).bind fun t => gval (T t) bb) fun g => Xf g (opQ P z H g T (.convert s d x)) fun r => erun P z N ops os (tput T dst r) H n Q) := erun_gq (by simp [WO, h])
theorem er_makeFunc (f : Fn) (a b : Array Operand) : erun P z N ops (⟨dst, .makeFunc f a b, ty, pos, after, none⟩ :: os) T H n Q = (dOK N dst ∧ cont (opQ P z H true T (.makeFunc f a b)) fun r => erun P z N ops os (tput T dst r) H n Q) := rfl
theorem erg_makeFunc (f : Fn) (a b : Array Operand) : erun P z N ops (⟨dst, .makeFunc f a b, ty, pos, after, some (j, bb)⟩ :: os) T H n Q = (dOK N dst ∧ Yc ((gtmp ops j).bind fun t => gval (T t) bb) fun g => Xf g (opQ P z H g T (.makeFunc f a b)) fun r => erun P z N ops os (tput T dst r) H n Q) := rfl
theorem er_slice (t : TypeId) (x : Operand) (l h m : Option Operand) : erun P z N ops (⟨dst, .slice t x l h m, ty, pos, after, none⟩ :: os) T H n Q = (dOK N dst ∧ cont (opQ P z H true T (.slice t x l h m)) fun r => erun P z N ops os (tput T dst r) H n Q) := rfl
theorem erg_slice (t : TypeId) (x : Operand) (l h m : Option Operand) : erun P z N ops (⟨dst, .slice t x l h m, ty, pos, after, some (j, bb)⟩ :: os) T H n Q = (dOK N dst ∧ Yc ((gtmp ops j).bind fun t => gval (T t) bb) fun g => Xf g (opQ P z H g T (.slice t x l h m)) fun r => erun P z N ops os (tput T dst r) H n Q) := rfl
theorem er_build (t : TypeId) (p : Array (Nat × Operand)) : erun P z N ops (⟨dst, .build t p, ty, pos, after, none⟩ :: os) T H n Q = (dOK N dst ∧ cont (opQ P z H true T (.build t p)) fun r => erun P z N ops os (tput T dst r) H n Q) := rfl
theorem erg_build (t : TypeId) (p : Array (Nat × Operand)) : erun P z N ops (⟨dst, .build t p, ty, pos, after, some (j, bb)⟩ :: os) T H n Q = (dOK N dst ∧ Yc ((gtmp ops j).bind fun t => gval (T t) bb) fun g => Xf g (opQ P z H g T (.build t p)) fun r => erun P z N ops os (tput T dst r) H n Q) := rfl
theorem er_buildSlice (t : TypeId) (k : Nat) (p : Array (Nat × Operand)) : erun P z N ops (⟨dst, .buildSlice t k p, ty, pos, after, none⟩ :: os) T H n Q = (dOK N dst ∧ Xe (opW P z H n T (.buildSlice t k p)) fun r H' n' => erun P z N ops os (tput T dst r) H' n' Q) := rfl
theorem er_makeMap (t : TypeId) (r : Option Operand) : erun P z N ops (⟨dst, .makeMap t r, ty, pos, after, none⟩ :: os) T H n Q = (dOK N dst ∧ Xe (opW P z H n T (.makeMap t r)) fun r H' n' => erun P z N ops os (tput T dst r) H' n' Q) := rfl
theorem er_mapUpdate (t : TypeId) (m k v : Operand) : erun P z N ops (⟨dst, .mapUpdate t m k v, ty, pos, after, none⟩ :: os) T H n Q = (dOK N dst ∧ Xe (opW P z H n T (.mapUpdate t m k v)) fun r H' n' => erun P z N ops os (tput T dst r) H' n' Q) := rfl
theorem er_lookup (t : TypeId) (x i : Operand) (b : Bool) : erun P z N ops (⟨dst, .lookup t x i b, ty, pos, after, none⟩ :: os) T H n Q = (dOK N dst ∧ cont (opQ P z H true T (.lookup t x i b)) fun r => erun P z N ops os (tput T dst r) H n Q) := rfl
theorem erg_lookup (t : TypeId) (x i : Operand) (b : Bool) : erun P z N ops (⟨dst, .lookup t x i b, ty, pos, after, some (j, bb)⟩ :: os) T H n Q = (dOK N dst ∧ Yc ((gtmp ops j).bind fun t => gval (T t) bb) fun g => Xf g (opQ P z H g T (.lookup t x i b)) fun r => erun P z N ops os (tput T dst r) H n Q) := rfl
theorem J9 (t : TypeId) (x : Operand) : erun P z N ops (⟨dst, .makeInterface t x, ty, pos, after, none⟩ :: os) T H n Q = (dOK N dst ∧ cont (opQ P z H true T (.makeInterface t x)) fun r => erun P z N ops os (tput T dst r) H n Q) := rfl
theorem Ju (t : TypeId) (x : Operand) : erun P z N ops (⟨dst, .makeInterface t x, ty, pos, after, some (j, bb)⟩ :: os) T H n Q = (dOK N dst ∧ Yc ((gtmp ops j).bind fun t => gval (T t) bb) fun g => Xf g (opQ P z H g T (.makeInterface t x)) fun r => erun P z N ops os (tput T dst r) H n Q) := rfl
theorem er_typeAssert (x : Operand) (t a : TypeId) (b : Bool) : erun P z N ops (⟨dst, .typeAssert x t a b, ty, pos, after, none⟩ :: os) T H n Q = (dOK N dst ∧ cont (opQ P z H true T (.typeAssert x t a b)) fun r => erun P z N ops os (tput T dst r) H n Q) := rfl
theorem L8 (x : Operand) (t a : TypeId) (b : Bool) : erun P z N ops (⟨dst, .typeAssert x t a b, ty, pos, after, some (j, bb)⟩ :: os) T H n Q = (dOK N dst ∧ Yc ((gtmp ops j).bind fun t => gval (T t) bb) fun g => Xf g (opQ P z H g T (.typeAssert x t a b)) fun r => erun P z N ops os (tput T dst r) H n Q) := rfl
theorem er_makeSlice (t : TypeId) (x y : Operand) : erun P z N ops (⟨dst, .makeSlice t x y, ty, pos, after, none⟩ :: os) T H n Q = (dOK N dst ∧ Xe (opW P z H n T (.makeSlice t x y)) fun r H' n' => erun P z N ops os (tput T dst r) H' n' Q) := rfl
theorem er_store (t : TypeId) (x v : Operand) : erun P z N ops (⟨dst, .store t x v, ty, pos, after, none⟩ :: os) T H n Q = (dOK N dst ∧ Xe (opW P z H n T (.store t x v)) fun r H' n' => erun P z N ops os (tput T dst r) H' n' Q) := rfl
theorem er_box (t : TypeId) (x : Operand) : erun P z N ops (⟨dst, .box t x, ty, pos, after, none⟩ :: os) T H n Q = (dOK N dst ∧ Xe (opW P z H n T (.box t x)) fun r H' n' => erun P z N ops os (tput T dst r) H' n' Q) := rfl
theorem er_alloc (t : TypeId) : erun P z N ops (⟨dst, .alloc t, ty, pos, after, none⟩ :: os) T H n Q = (dOK N dst ∧ Xe (opW P z H n T (.alloc t)) fun r H' n' => erun P z N ops os (tput T dst r) H' n' Q) := rfl
theorem er_len (args : Array Operand) (ts : Array TypeId) : erun P z N ops (⟨dst, .call ⟨.builtin .len, args, ts⟩, ty, pos, after, none⟩ :: os) T H n Q = (dOK N dst ∧ cont (opQ P z H true T (.call ⟨.builtin .len, args, ts⟩)) fun r => erun P z N ops os (tput T dst r) H n Q) := rfl
theorem er_max (args : Array Operand) (ts : Array TypeId) : erun P z N ops (⟨dst, .call ⟨.builtin .max, args, ts⟩, ty, pos, after, none⟩ :: os) T H n Q = (dOK N dst ∧ cont (opQ P z H true T (.call ⟨.builtin .max, args, ts⟩)) fun r => erun P z N ops os (tput T dst r) H n Q) := rfl
theorem er_min (args : Array Operand) (ts : Array TypeId) : erun P z N ops (⟨dst, .call ⟨.builtin .min, args, ts⟩, ty, pos, after, none⟩ :: os) T H n Q = (dOK N dst ∧ cont (opQ P z H true T (.call ⟨.builtin .min, args, ts⟩)) fun r => erun P z N ops os (tput T dst r) H n Q) := rfl
theorem erg_len (args : Array Operand) (ts : Array TypeId) : erun P z N ops (⟨dst, .call ⟨.builtin .len, args, ts⟩, ty, pos, after, some (j, bb)⟩ :: os) T H n Q = (dOK N dst ∧ Yc ((gtmp ops j).bind fun t => gval (T t) bb) fun g => Xf g (opQ P z H g T (.call ⟨.builtin .len, args, ts⟩)) fun r => erun P z N ops os (tput T dst r) H n Q) := rfl
theorem er_append (args : Array Operand) (ts : Array TypeId) : erun P z N ops (⟨dst, .call ⟨.builtin .append, args, ts⟩, ty, pos, after, none⟩ :: os) T H n Q = (dOK N dst ∧ Xe (opW P z H n T (.call ⟨.builtin .append, args, ts⟩)) fun r H' n' => erun P z N ops os (tput T dst r) H' n' Q) := rfl
end
theorem fld_agg (fs : List AV) (i : Nat) : (AV.agg fs).fld i = nth fs i := rfl
theorem nth_zero (a : AV) (l : List AV) : nth (a :: l) 0 = a := rfl
theorem nth_succ (a : AV) (l : List AV) (i : Nat) : nth (a :: l) (i + 1) = nth l i := by simp [nth]
theorem nf_agg (fs : List AV) : (AV.agg fs).nf = fs.length := rfl
theorem offs_agg (fs : List AV) (i : Nat) : (AV.agg fs).offs i = AV.szs (fs.take i) := rfl
theorem setf_agg (fs : List AV) (i : Nat) (v : AV) : (AV.agg fs).setf i v = .agg (fs.set i v) := rfl
theorem MF (H : Heap) (k j : Nat) (o : Option AObj) : H.put k o j = if j = k then o else H j := rfl
attribute [go_sem] J9 Ju er_typeAssert L8 er_makeSlice opQ.eq_20 opQ.eq_21 qMkI Jj.eq_1 Jj.eq_2 opW.eq_9 wMkSl.eq_1 wMkSl2.eq_1 YD.eq_4 globOf.eq_1 qIdxG.eq_1 qIdxG1.eq_1 qIdxG2.eq_1 qSlNil.eq_1
attribute [go_sem] qBin.eq_30 qBin.eq_31 qBin.eq_32 qBin.eq_33 qBin.eq_34 qBin.eq_35 qBin.eq_36 qBin.eq_37 qBin.eq_38 qBin.eq_39 qBin.eq_40 qBin.eq_41 qBin.eq_42 qBin.eq_43 qBin.eq_44 qBin.eq_45 qBin.eq_46 qBin.eq_47 qBin.eq_48 qBin.eq_49
attribute [go_sem] wCv.eq_1 wConv.eq_1 JO.eq_1
attribute [go_sem] er_move erg_move er_assign erg_assign er_pick erg_pick er_fieldAddr erg_fieldAddr er_load erg_load er_indexAddr erg_indexAddr er_index erg_index er_field erg_field er_binOp erg_binOp er_unOp erg_unOp er_nilCheck erg_nilCheck er_extract erg_extract er_len er_max er_min erg_len er_append er_convert erg_convert er_makeFunc erg_makeFunc er_slice erg_slice er_build erg_build er_buildSlice er_makeMap er_mapUpdate er_lookup erg_lookup er_store er_box er_alloc
attribute [go_sem] erun.eq_1 erun_c erun_gc dOK.eq_1 dOK.eq_2
attribute [go_sem] opQ.eq_1 opQ.eq_2 opQ.eq_3 opQ.eq_4 opQ.eq_5 opQ.eq_6 opQ.eq_7 opQ.eq_8 opQ.eq_9 opQ.eq_10 opQ_len opQ.eq_12 opQ.eq_13 opQ.eq_14 opQ.eq_15 opQ.eq_16 opQ.eq_17 opQ.eq_18 opQ.eq_19 qSlice3.eq_1 optI.eq_1 optI.eq_2 Yx.eq_1 Yx.eq_2 Yx.eq_3 Yx.eq_4 Yx.eq_5 qConvS.eq_1 qConvS.eq_2 qConvO.eq_1 XM.eq_1 XM.eq_2 XM.eq_3 XM.eq_4 qField.eq_1 Uu.eq_1 Uu.eq_2 QV.eq_1 QV.eq_2 QV.eq_3 QV.eq_4 qSlO.eq_1 qBuild VR JY WU.eq_1 WU.eq_2 QZ.eq_1 QZ.eq_2 Uw.eq_1 Uw.eq_2
attribute [go_sem] opW.eq_1 opW.eq_2 opW.eq_3 opW.eq_4 opW.eq_5 opW.eq_6 opW.eq_7 wBSl Uc.eq_1 Uc.eq_2 wMapUp.eq_1 wMapUpO.eq_1 KT.eq_1 Jh.eq_1 Jh.eq_2 qLookO.eq_1 JZ.eq_1 wAppL.eq_1 KU wApp2.eq_1 wApp2.eq_2 wAppA.eq_1 slcO.eq_1 slcO.eq_2 slcO.eq_3 slcO.slcA.eq_1
attribute [go_sem] strip.eq_1 strip.eq_2 evO.eq_1 evO.eq_2 evO.eq_3 evO.eq_4 cont_some contG_some contG_none contB_some contW_some contL_some
attribute [go_sem] UX.eq_1 UX.eq_2 UX.eq_3 UX.eq_4 UX.eq_5 UX.eq_6 UX.eq_7 UX.eq_8
attribute [go_sem] gval.eq_1 gval.eq_2 gtmp_eq Kq.eq_1 Kq.eq_2 Kq.eq_3 tput_tl tput_none tl.eq_1 tl.eq_2 tsel_eq Yw.eq_1 Yw.eq_2 JN.eq_1 JN.eq_2 argL.eq_1 argL.eq_2
attribute [go_sem] Fin.eq_1 Fin.eq_2 Fin.eq_3 Fin.eq_4 resC.eq_1 resC.eq_2 resC.eq_3 resT.eq_1 resL.eq_1 resV.eq_1 resV.eq_2
attribute [go_sem] Uv qFA.eq_1 qFA.eq_2 VE.eq_1 VE.eq_2 qLoadO.eq_1 YD.eq_1 YD.eq_2 YD.eq_3 qIdxA.eq_1 qIdxO.eq_1
attribute [go_sem] qBin.eq_1 qBin.eq_2 qBin.eq_3 qBin.eq_4 qBin.eq_5 qBin.eq_6 qBin.eq_7 qBin.eq_8 qBin.eq_9 qBin.eq_10 qBin.eq_11 qBin.eq_12 qBin.eq_13 qBin.eq_14 qBin.eq_15 qBin.eq_16 qBin.eq_17 qBin.eq_18 qBin.eq_19 qBin.eq_20 qBin.eq_21 qBin.eq_22 qBin.eq_23 qBin.eq_24 qBin.eq_25 qBin.eq_26 qBin.eq_27 qBin.eq_28 qBin.eq_29 qEqNums.eq_1 numsL.eq_1 numsL.eq_2
attribute [go_sem] qUn.eq_1 qUn.eq_2 qUn.eq_3 qNil.eq_1 qNil.eq_2 qNil.eq_3 Ji.eq_1 qLen.eq_1 qLen.eq_2 qLen.eq_3 qLen.eq_4 LF.eq_1 LF.eq_2 LF.eq_3 LD.eq_1 LD.eq_2 LD.eq_3 LD.eq_4 LD.eq_5
attribute [go_sem] wStore.eq_1 wStoreO.eq_1 wBox wAlloc tyOK
attribute [go_sem] fld_agg nth_zero nth_succ nf_agg offs_agg setf_agg AV.at.eq_1 AV.at.eq_2 AV.pathOff.eq_1 AV.pathOff.eq_2 AV.pathOK.eq_1 AV.pathOK.eq_2 AV.upd.eq_1 AV.upd.eq_2 AV.sz.eq_1 AV.sz.eq_2 AV.szs.eq_1 AV.szs.eq_2 AV.isAgg.eq_1 AV.isAgg.eq_2 AV.memOK.eq_5 MF
def opAt : List Oper → Nat → Option Oper
 | [], _ => none
 | o :: _, 0 => some o
 | _ :: l, k + 1 => opAt l k
theorem opAt_eq (l : List Oper) (k : Nat) : opAt l k = l[k]? := by
 induction l generalizing k with
 | nil => simp [opAt]
 | cons o l ih => cases k <;> simp [opAt, ih]
def XK (P : Program) (z : TypeId → AV) (T : Nat → AV) (H H' : Heap) : Option Oper → Prop
 | none => True
 | some ⟨dst, .call ⟨.value fo, args, _⟩, _, _, _, none⟩ => ∀ d, dst = some d → KD P (strip true (evO T fo)) (args.toList.map fun x => strip true (evO T x)) H' (T d)
 | some ⟨_, .call ⟨.value _, _, _⟩, _, _, _, some _⟩ => False
 | some ⟨_, op, _, _, _, _⟩ => ∀ g, opQ P z H' g T op = opQ P z H g T op
def Vh (P : Program) (z : TypeId → AV) (l : List Oper) (T : Nat → AV) (H H' : Heap) : List Nat → Prop
 | [] => True
 | q :: qs => XK P z T H H' (opAt l q) ∧ Vh P z l T H H' qs
theorem sameC_one {P : Program} {z : TypeId → AV} {l : List Oper} {T : Nat → AV} {H H' : Heap} {q : Nat} (h : XK P z T H H' (opAt l q)) : Yz P z l.toArray q T H H' := by
 rw [opAt_eq] at h
 unfold Yz
 simp only [List.getElem?_toArray]
 cases ho : l[q]? with
 | none => trivial
 | some o =>
   rw [ho] at h
   obtain ⟨dst, op, ty, pos, after, guard⟩ := o
   unfold XK at h
   split at h
   ·rename_i heq; simp at heq
   ·rename_i heq
    simp only [Option.some.injEq, Oper.mk.injEq] at heq
    obtain ⟨rfl, rfl, rfl, rfl, rfl, rfl⟩ := heq
    exact h
   ·exact h.elim
   ·rename_i x1 x2 heq
    simp only [Option.some.injEq, Oper.mk.injEq] at heq
    obtain ⟨rfl, rfl, rfl, rfl, rfl, rfl⟩ := heq
    dsimp only
    split
    ·rename_i fo args ts; exact (x1 _ _ _ rfl rfl).elim
    ·rename_i fo args ts jb; exact (x2 _ _ _ _ rfl rfl).elim
    ·intro g _; exact h g
def samesA (P : Program) (z : TypeId → AV) (l : List Oper) (T : Nat → AV) (H : Heap) (inc : List Nat) : Prop := ∀ H2, Qo H H2 → Vh P z l T H H2 inc
theorem WC {P : Program} {z : TypeId → AV} {l : List Oper} {T : Nat → AV} {H H' : Heap} : ∀ {qs : List Nat}, Vh P z l T H H' qs → ∀ q ∈ qs, Yz P z l.toArray q T H H'
 | [], _, q, hq => by simp at hq
 | x :: qs, h, q, hq => by
   rcases List.mem_cons.1 hq with rfl | hq
   ·exact sameC_one h.1
   ·exact WC h.2 q hq
def Q4 (P : Program) (g : Bool) (fv : AV) (args : List AV) (H : Heap) (k : AV → Prop) : Prop := ∃ r, (g = true → KD P fv args H r) ∧ k r
@[congr] theorem callQG_congr {P : Program} {g g' : Bool} {fv fv' : AV} {args args' : List AV} {H H' : Heap} {k : AV → Prop} (h0 : g = g') (h1 : fv = fv') (h2 : args = args') (h3 : H = H') :
 Q4 P g fv args H k = Q4 P g' fv' args' H' k := by rw [h0, h1, h2, h3]
theorem ZR {P : Program} {g : Bool} {f : FuncId} {fn : Func} {first captured args args' : List AV} {H : Heap} {k : AV → Prop} {r : AV}
   (hf : P.funcs[f]? = some fn) (hb : fn.body.isSome = true) (hn : (fn.name == "runtime.NumGoroutine") = false) (ha : first ++ args ++ captured = args') (h : g = true → ∀ n, Ret P f args' H n r H n) (hk : k r) : Q4 P g (.fn (.func f) first captured) args H k :=
 ⟨r, fun hg n => Zg hf hb hn ha (h hg n) ⟨rfl, rfl, rfl⟩, hk⟩
def dr (P : Program) (z : TypeId → AV) (N : Nat) (l : List Oper) : List (Oper × DK) → (Nat → AV) → Heap → Nat → (AEx → (Nat → AV) → Heap → Nat → Prop) → Prop
 | [], T, H, n, Q => Q .normal T H n
 | (⟨dst, op, _, _, _, none⟩, k) :: os, T, H, n, Q => dOK N dst ∧ match k with
   | .m => match op with
     | .move x => dr P z N l os (tput T dst (strip true (evO T x))) H n Q
     | _ => False
   | .q => cont (opQ P z H true T op) fun r => dr P z N l os (tput T dst r) H n Q
   | .c => match op with
     | .call ⟨.value fo, args, _⟩ => Q4 P true (strip true (evO T fo)) (args.toList.map fun x => strip true (evO T x)) H fun r => dr P z N l os (tput T dst r) H n Q
     | _ => False
   | .w inc => match op with
     | .call ⟨.value fo, args, _⟩ => Wz P (evO T fo) (args.toList.map (evO T)) H n (fun r H' n' => Vh P z l T H H' inc ∧ dr P z N l os (tput T dst r) H' n' Q) (fun p H' n' => Q (.pan p) T H' n')
     | op => Xe (opW P z H n T op) fun r H' n' => Vh P z l T H H' inc ∧ dr P z N l os (tput T dst r) H' n' Q
   | .a key inc => Xe (opA P z H key n T op) fun r H' n' => samesA P z l T H inc ∧ dr P z N l os (tput T dst r) H' n' Q
 | (⟨dst, op, _, _, _, some (j, b)⟩, k) :: os, T, H, n, Q => dOK N dst ∧ Yc ((gtmp l.toArray j).bind fun t => gval (T t) b) fun g => match k with
   | .m => match op with
     | .move x => dr P z N l os (tput T dst (.opt g (strip g (evO T x)))) H n Q
     | _ => False
   | .q => Xf g (opQ P z H g T op) fun r => dr P z N l os (tput T dst r) H n Q
   | .c => match op with
     | .call ⟨.value fo, args, _⟩ => Q4 P g (strip g (evO T fo)) (args.toList.map fun x => strip g (evO T x)) H fun r => dr P z N l os (tput T dst (.opt g r)) H n Q
     | _ => False
   | .w _ => False
   | .a _ _ => False
theorem dr_drun {P : Program} {z : TypeId → AV} {N : Nat} {l : List Oper} {ks : List DK} {Q : AEx → (Nat → AV) → Heap → Nat → Prop} :
   ∀ (m k : Nat) (T : Nat → AV) (H : Heap) (n : Nat), k + m = l.length → ks.length = l.length → dr P z N l ((l.zip ks).drop k) T H n Q → drun P z N l.toArray ((List.range' k m).map (item ks)) T H n Q
 | 0, k, T, H, n, hk, hl, h => by
   rw [List.drop_eq_nil_of_le (by simp [hl]; omega)] at h
   exact h
 | m + 1, k, T, H, n, hk, hl, h => by
   have h1 : k < l.length := by omega
   have h2 : k < ks.length := by omega
   have hlk : l[k]? = some l[k] := List.getElem?_eq_getElem h1
   have e : (l.zip ks).drop k = (l[k], ks[k]) :: (l.zip ks).drop (k + 1) := by
     rw [List.drop_eq_getElem_cons (by simp [hl]; omega)]; simp
   rw [e] at h
   have ih := fun (T : Nat → AV) (H : Heap) (n : Nat) => dr_drun (P := P) (z := z) (N := N) (ks := ks) (Q := Q) m (k + 1) T H n (by omega) hl
   rw [List.range'_succ, List.map_cons]
   have ei : item ks k = (k, ks[k], ks[k].inc) := by simp [item, List.getD, List.getElem?_eq_getElem h2]
   rw [ei]
   show Yg P z N l.toArray k ks[k] ks[k].inc T H n _ Q
   unfold Yg
   simp only [List.getElem?_toArray, hlk]
   generalize l[k] = o at h ⊢
   generalize ks[k] = kd at h ⊢
   obtain ⟨dst, op, ty, pos, after, guard⟩ := o
   cases guard with
   | none =>
     unfold dr at h
     refine ⟨h.1, ?_⟩
     have h := h.2
     cases kd with
     | m =>
       simp only [gvO, Yc, putG] at h ⊢
       split
       ·exact ih _ _ _ h
       ·rename_i hne; split at h
        ·exact (hne _ rfl).elim
        ·exact h
     | q =>
       simp only [gvO, Yc, putG] at h ⊢
       cases hq : opQ P z H true T op with
       | none => rw [hq] at h; exact h.elim
       | some p => rw [hq] at h; exact ⟨fun _ => h.1, ih _ _ _ h.2⟩
     | c =>
       simp only [gvO, Yc, putG] at h ⊢
       split
       ·rename_i fo args ts; obtain ⟨r, h1, h2⟩ := h; exact ⟨r, fun _ => h1 rfl, ih _ _ _ h2⟩
       ·rename_i hne; split at h
        ·exact (hne _ _ _ rfl).elim
        ·exact h
     | w inc =>
       simp only [DK.inc] at h ⊢
       refine ⟨trivial, ?_⟩
       split
       ·rename_i fo args ts
        exact UA (fun r H n hr => ⟨WC hr.1, ih _ _ _ hr.2⟩) h
       ·rename_i hne
        split at h
        ·rename_i fo args ts; exact (hne _ _ _ rfl).elim
        ·cases hw : opW P z H n T op with
         | none => rw [hw] at h; exact h.elim
         | some p => rw [hw] at h; exact ⟨h.1, WC h.2.1, ih _ _ _ h.2.2⟩
     | a key inc =>
       simp only [DK.inc] at h ⊢
       refine ⟨trivial, ?_⟩
       cases hw : opA P z H key n T op with
       | none => rw [hw] at h; exact h.elim
       | some p => rw [hw] at h; exact ⟨h.1, fun q hq H2 hag => WC (h.2.1 H2 hag) q hq, ih _ _ _ h.2.2⟩
   | some jb =>
     obtain ⟨j, b⟩ := jb
     unfold dr at h
     refine ⟨h.1, ?_⟩
     have h := h.2
     have hgv : gvO l.toArray T ⟨dst, op, ty, pos, after, some (j, b)⟩ = (gtmp l.toArray j).bind fun t => gval (T t) b := rfl
     cases hg : (gtmp l.toArray j).bind fun t => gval (T t) b with
     | none => rw [hg] at h; exact h.elim
     | some g =>
       rw [hg] at h
       simp only [Yc] at h
       cases kd with
       | m =>
         simp only [hgv, hg, Yc, putG] at h ⊢
         split
         ·exact ih _ _ _ h
         ·rename_i hne; split at h
          ·exact (hne _ rfl).elim
          ·exact h
       | q =>
         simp only [hgv, hg, Yc, putG] at h ⊢
         cases hq : opQ P z H g T op with
         | none => rw [hq] at h; exact ⟨h.1, ih _ _ _ h.2⟩
         | some p => rw [hq] at h; exact ⟨h.1, ih _ _ _ h.2⟩
       | c =>
         simp only [hgv, hg, Yc, putG] at h ⊢
         split
         ·rename_i fo args ts; obtain ⟨r, h1, h2⟩ := h; exact ⟨r, h1, ih _ _ _ h2⟩
         ·rename_i hne; split at h
          ·rename_i fo args ts; exact (hne _ _ _ rfl).elim
          ·exact h
       | w inc => exact h.elim
       | a key inc => exact h.elim
theorem YJ {P : Program} {N id : Nat} {l : List Oper} {y : Code} {T : Nat → AV} {H : Heap} {n : Nat} {Q : AEx → (Nat → AV) → Heap → Nat → Prop} (hm : P.follows .mixedOrders = true) (z : TypeId → AV) (live : List Nat) (ks : List DK)
   (hc : U4 l N ks = true) (hpan : ∀ p T T' H n, Q (.pan p) T H n → Q (.pan p) T' H n)
   (h : ∀ K : (Nat → AV) → Heap → Nat → Prop, (∀ T H n, awp P N y T H n Q → K T H n) → dr P z N l (l.zip ks) T H n (Yw (fun T' H' n' => K (tsel live T') H' n') Q)) :
   awp P N (.seq (.region id l.toArray true) y) T H n Q :=
 awp_draw hm z live ks hc hpan fun K Y => by
   have hlen : ks.length = l.length := by
     unfold U4 at hc; simp only [Bool.and_eq_true, beq_iff_eq] at hc; exact hc.1.1
   rw [List.range_eq_range']
   exact dr_drun l.length 0 T H n (by omega) hlen (by simpa using h K Y)
section
variable (P : Program) (z : TypeId → AV) (N : Nat) (l : List Oper) (T : Nat → AV) (H : Heap) (n : Nat) (Q : AEx → (Nat → AV) → Heap → Nat → Prop) (dst : Option Tmp) (ty : TypeId) (pos : String) (after : Array Edge) (os : List (Oper × DK)) (j : Nat) (bb : Bool)
theorem dr_nil : dr P z N l [] T H n Q = Q .normal T H n := rfl
theorem dr_m (x : Operand) : dr P z N l ((⟨dst, .move x, ty, pos, after, none⟩, .m) :: os) T H n Q = (dOK N dst ∧ dr P z N l os (tput T dst (strip true (evO T x))) H n Q) := rfl
theorem dr_gm (x : Operand) : dr P z N l ((⟨dst, .move x, ty, pos, after, some (j, bb)⟩, .m) :: os) T H n Q = (dOK N dst ∧ Yc ((gtmp l.toArray j).bind fun t => gval (T t) bb) fun g => dr P z N l os (tput T dst (.opt g (strip g (evO T x)))) H n Q) := rfl
theorem dr_q (op : Op) : dr P z N l ((⟨dst, op, ty, pos, after, none⟩, .q) :: os) T H n Q = (dOK N dst ∧ cont (opQ P z H true T op) fun r => dr P z N l os (tput T dst r) H n Q) := rfl
theorem dr_gq (op : Op) : dr P z N l ((⟨dst, op, ty, pos, after, some (j, bb)⟩, .q) :: os) T H n Q = (dOK N dst ∧ Yc ((gtmp l.toArray j).bind fun t => gval (T t) bb) fun g => Xf g (opQ P z H g T op) fun r => dr P z N l os (tput T dst r) H n Q) := rfl
theorem dr_c (fo : Operand) (args : List Operand) (ts : Array TypeId) : dr P z N l ((⟨dst, .call ⟨.value fo, args.toArray, ts⟩, ty, pos, after, none⟩, .c) :: os) T H n Q = (dOK N dst ∧ Q4 P true (strip true (evO T fo)) (args.map fun x => strip true (evO T x)) H fun r => dr P z N l os (tput T dst r) H n Q) := rfl
theorem dr_gc (fo : Operand) (args : List Operand) (ts : Array TypeId) : dr P z N l ((⟨dst, .call ⟨.value fo, args.toArray, ts⟩, ty, pos, after, some (j, bb)⟩, .c) :: os) T H n Q = (dOK N dst ∧ Yc ((gtmp l.toArray j).bind fun t => gval (T t) bb) fun g => Q4 P g (strip g (evO T fo)) (args.map fun x => strip g (evO T x)) H fun r => dr P z N l os (tput T dst (.opt g r)) H n Q) := rfl
theorem dr_wc (inc : List Nat) (fo : Operand) (args : List Operand) (ts : Array TypeId) : dr P z N l ((⟨dst, .call ⟨.value fo, args.toArray, ts⟩, ty, pos, after, none⟩, .w inc) :: os) T H n Q = (dOK N dst ∧ Wz P (evO T fo) (args.map (evO T)) H n (fun r H' n' => Vh P z l T H H' inc ∧ dr P z N l os (tput T dst r) H' n' Q) (fun p H' n' => Q (.pan p) T H' n')) := rfl
theorem dr_store (inc : List Nat) (t : TypeId) (x v : Operand) : dr P z N l ((⟨dst, .store t x v, ty, pos, after, none⟩, .w inc) :: os) T H n Q = (dOK N dst ∧ Xe (opW P z H n T (.store t x v)) fun r H' n' => Vh P z l T H H' inc ∧ dr P z N l os (tput T dst r) H' n' Q) := rfl
theorem dr_box (inc : List Nat) (t : TypeId) (x : Operand) : dr P z N l ((⟨dst, .box t x, ty, pos, after, none⟩, .w inc) :: os) T H n Q = (dOK N dst ∧ Xe (opW P z H n T (.box t x)) fun r H' n' => Vh P z l T H H' inc ∧ dr P z N l os (tput T dst r) H' n' Q) := rfl
theorem dr_alloc (inc : List Nat) (t : TypeId) : dr P z N l ((⟨dst, .alloc t, ty, pos, after, none⟩, .w inc) :: os) T H n Q = (dOK N dst ∧ Xe (opW P z H n T (.alloc t)) fun r H' n' => Vh P z l T H H' inc ∧ dr P z N l os (tput T dst r) H' n' Q) := rfl
theorem dr_allocA (key : Nat) (inc : List Nat) (t : TypeId) : dr P z N l ((⟨dst, .alloc t, ty, pos, after, none⟩, .a key inc) :: os) T H n Q = (dOK N dst ∧ Xe (opAO H key n (H key) (some (Z5 P t (z t), .loc key 1 0 0 [], .arr 1 (z t).sz [z t]))) fun r H' n' => samesA P z l T H inc ∧ dr P z N l os (tput T dst r) H' n' Q) := rfl
theorem dr_makeA (key : Nat) (inc : List Nat) (t : TypeId) (x y : Operand) : dr P z N l ((⟨dst, .makeSlice t x y, ty, pos, after, none⟩, .a key inc) :: os) T H n Q = (dOK N dst ∧ Xe (opAO H key n (H key) (newMk P z key (tElT P t) (tEl P t) (evO T x) (evO T y))) fun r H' n' => samesA P z l T H inc ∧ dr P z N l os (tput T dst r) H' n' Q) := rfl
theorem newMk_some (key : Nat) (e : TypeId) (s b : Nat) (k1 k2 : IntKind) (l c : Int) : newMk P z key (some e) (some (s, b)) (.int k1 l) (.int k2 c) = some (0 ≤ l ∧ l ≤ c ∧ b * c ≤ 281474976710656 ∧ c ≤ 9223372036854775807 ∧ s = (z e).sz ∧ Z5 P e (z e), .osl key 1 0 l.toNat, .arr 1 s (List.replicate c.toNat (z e))) := rfl
theorem opAO_some (e : Nat) (key : Nat) (C : Prop) (r : AV) (o : AObj) : opAO H key n (some (.arr 0 e [])) (some (C, r, o)) = some (C, r, H.put key (some o), n) := rfl
theorem dr_makeSlice (inc : List Nat) (t : TypeId) (x y : Operand) : dr P z N l ((⟨dst, .makeSlice t x y, ty, pos, after, none⟩, .w inc) :: os) T H n Q = (dOK N dst ∧ Xe (opW P z H n T (.makeSlice t x y)) fun r H' n' => Vh P z l T H H' inc ∧ dr P z N l os (tput T dst r) H' n' Q) := rfl
theorem dr_makeMap (inc : List Nat) (t : TypeId) (r : Option Operand) : dr P z N l ((⟨dst, .makeMap t r, ty, pos, after, none⟩, .w inc) :: os) T H n Q = (dOK N dst ∧ Xe (opW P z H n T (.makeMap t r)) fun r H' n' => Vh P z l T H H' inc ∧ dr P z N l os (tput T dst r) H' n' Q) := rfl
theorem dr_mapUpdate (inc : List Nat) (t : TypeId) (m k v : Operand) : dr P z N l ((⟨dst, .mapUpdate t m k v, ty, pos, after, none⟩, .w inc) :: os) T H n Q = (dOK N dst ∧ Xe (opW P z H n T (.mapUpdate t m k v)) fun r H' n' => Vh P z l T H H' inc ∧ dr P z N l os (tput T dst r) H' n' Q) := rfl
theorem dr_buildSlice (inc : List Nat) (t : TypeId) (k : Nat) (p : Array (Nat × Operand)) : dr P z N l ((⟨dst, .buildSlice t k p, ty, pos, after, none⟩, .w inc) :: os) T H n Q = (dOK N dst ∧ Xe (opW P z H n T (.buildSlice t k p)) fun r H' n' => Vh P z l T H H' inc ∧ dr P z N l os (tput T dst r) H' n' Q) := rfl
theorem dr_append (inc : List Nat) (args : Array Operand) (ts : Array TypeId) : dr P z N l ((⟨dst, .call ⟨.builtin .append, args, ts⟩, ty, pos, after, none⟩, .w inc) :: os) T H n Q = (dOK N dst ∧ Xe (opW P z H n T (.call ⟨.builtin .append, args, ts⟩)) fun r H' n' => Vh P z l T H H' inc ∧ dr P z N l os (tput T dst r) H' n' Q) := rfl
end
mutual
def flat : AV → Option (List Value)
 | .int k n => some [.int k n]
 | .bool b => some [.bool b]
 | .str s => some [.string ⟨s.toArray⟩]
 | .nilp => some [.pointer none]
 | .nilsl => some [.slice none 0 0]
 | .nilf => some [.nilFunc]
 | .nilm => some [.map none]
 | .nili => some [.nilIface]
 | .agg fs => LX fs
 | _ => none
def LX : List AV → Option (List Value)
 | [] => some []
 | f :: fs => match flat f, LX fs with
   | some a, some b => some (a ++ b)
   | _, _ => none
end
mutual
theorem flat_rel (c : Ctx) : ∀ (av : AV) (cs : List Value), flat av = some cs → Rel c av true cs
 | .int k n, cs, h => by simp only [flat, Option.some.injEq] at h; subst h; simp [Rel]
 | .bool b, cs, h => by simp only [flat, Option.some.injEq] at h; subst h; simp [Rel]
 | .str s, cs, h => by simp only [flat, Option.some.injEq] at h; subst h; simp [Rel]
 | .nilp, cs, h => by simp only [flat, Option.some.injEq] at h; subst h; simp [Rel]
 | .nilsl, cs, h => by simp only [flat, Option.some.injEq] at h; subst h; simp [Rel]
 | .nilf, cs, h => by simp only [flat, Option.some.injEq] at h; subst h; simp [Rel]
 | .nilm, cs, h => by simp only [flat, Option.some.injEq] at h; subst h; simp [Rel]
 | .nili, cs, h => by simp only [flat, Option.some.injEq] at h; subst h; simp [Rel]
 | .agg fs, cs, h => by simp only [flat] at h; simp only [Rel]; exact J7 c fs cs h
 | .rp _, _, h => by simp [flat] at h
 | .loc _ _ _ _ _, _, h => by simp [flat] at h
 | .sl _ _, _, h => by simp [flat] at h
 | .osl _ _ _ _, _, h => by simp [flat] at h
 | .tup _, _, h => by simp [flat] at h
 | .fn _ _ _, _, h => by simp [flat] at h
 | .omap _, _, h => by simp [flat] at h
 | .iface _ _, _, h => by simp [flat] at h
 | .opt _ _, _, h => by simp [flat] at h
 | .raw _, _, h => by simp [flat] at h
 | .junk, _, h => by simp [flat] at h
theorem J7 (c : Ctx) : ∀ (fs : List AV) (cs : List Value), LX fs = some cs → RelF c fs cs
 | [], cs, h => by simp only [LX, Option.some.injEq] at h; subst h; simp [RelF]
 | f :: fs, cs, h => by
   simp only [LX] at h
   split at h
   ·rename_i a b ha hb
    simp only [Option.some.injEq] at h
    subst h
    simp only [RelF]
    exact ⟨a, b, rfl, flat_rel c f a ha, J7 c fs b hb⟩
   ·simp at h
end
def flatV (z : AV) : Option Value :=
 match z with
 | .agg fs => (LX fs).map fun cs => .agg cs.toArray
 | z => match flat z with
   | some [v] => some v
   | _ => none
theorem ZP {P : Program} {t : TypeId} {z : AV} (hm : z.memOK = true) (v : Value) (h1 : ((P.info? t).bind (·.zero)) = some v) (h : flatV z = some v) : Z5 P t z := by
 cases hi : P.info? t with
 | none => rw [hi] at h1; simp at h1
 | some i =>
   rw [hi] at h1
   refine ⟨hm, i, v, hi, by simpa using h1, fun c => ?_⟩
   unfold flatV at h
   split at h
   ·rename_i fs
    cases hf : LX fs with
    | none => rw [hf] at h; simp at h
    | some cs =>
      rw [hf] at h
      simp only [Option.map_some, Option.some.injEq] at h
      subst h
      simp only [Rel]
      exact ⟨_, rfl, J7 c fs _ (by simpa using hf)⟩
   ·rename_i hne
    split at h
    ·rename_i u hu
     simp only [Option.some.injEq] at h
     subst h
     have := flat_rel c _ _ hu
     obtain ⟨v', e, hv⟩ := MZ this (by cases z <;> first | rfl | exact (hne _ rfl).elim)
     simp at e; subst e; exact hv
    ·simp at h
attribute [go_sem] dr_allocA dr_makeA newMk_some opAO_some dr_nil dr_m dr_gm dr_q dr_gq dr_c dr_gc dr_wc dr_store dr_box dr_alloc dr_makeSlice dr_append dr_makeMap dr_mapUpdate dr_buildSlice Vh.eq_1 Vh.eq_2 opAt.eq_1 opAt.eq_2 opAt.eq_3
attribute [go_sem] List.map_cons List.map_nil true_and and_true Option.bind_some cond_true cond_false List.zip_cons_cons List.zip_nil_right Bool.not_or_self List.length_cons List.length_nil
section
variable {P : Program} {N : Nat} {code : Code} {T T' : Nat → AV} {H H' : Heap} {n n' : Nat} {Q : AEx → (Nat → AV) → Heap → Nat → Prop}
theorem Um (h : ∀ c w tmps, Sim c H n w → Z4 c T tmps → ∃ c', Step c H w c' H' n' w ∧ Z4 c' T' tmps) (hk : awp P N code T' H' n' Q) : awp P N code T H n Q := fun c w a hs hr hN ds hd => by
 obtain ⟨c', hst, hr'⟩ := h c w a.tmps hs hr
 exact Go.wp_mono (hk c' w a hst.sim hr' hN ds hd) fun _ _ _ hp => hp.step hst
end
theorem Qi {P : Program} {N : Nat} {x : Code} {T : Nat → AV} {H : Heap} {n : Nat} {Q : AEx → (Nat → AV) → Heap → Nat → Prop} (live : List Nat) (h : awp P N x T H n (Yw (fun T H n => Q .normal (tsel live T) H n) Q)) : awp P N x T H n Q := fun c w a hs hr hN ds hd => by
 refine Go.wp_mono (h c w a hs hr hN ds hd) ?_
 rintro e a' w' ⟨ae, c', T', H', n', hQ, hm, hst, hr', hN', hd'⟩
 cases ae with
 | normal => exact ⟨.normal, c', tsel live T', H', n', hQ, hm, hst, Lb live hr', hN', hd'⟩
 | exit i => exact ⟨.exit i, c', T', H', n', hQ, hm, hst, hr', hN', hd'⟩
 | ret => exact ⟨.ret, c', T', H', n', hQ, hm, hst, hr', hN', hd'⟩
 | pan p => exact ⟨.pan p, c', T', H', n', hQ, hm, hst, hr', hN', hd'⟩
theorem Zl {P : Program} {N id : Nat} {l : List Oper} {T : Nat → AV} {H : Heap} {n : Nat} {Q : AEx → (Nat → AV) → Heap → Nat → Prop} (z : TypeId → AV) (live : List Nat)
   (h : ∀ K : (Nat → AV) → Heap → Nat → Prop, (∀ T H n, Q .normal T H n → K T H n) → erun P z N l.toArray l T H n (Yw (fun T' H' n' => K (tsel live T') H' n') Q)) :
   awp P N (.region id l.toArray false) T H n Q :=
 Qi live (Q7 z (by simpa using h (fun T' H' n' => Q .normal T' H' n') (fun _ _ _ h => h)))
theorem Ms {P : Program} {N id : Nat} {l : List Oper} {T : Nat → AV} {H : Heap} {n : Nat} {Q : AEx → (Nat → AV) → Heap → Nat → Prop} (hm : P.follows .mixedOrders = true) (z : TypeId → AV) (live : List Nat) (ks : List DK)
   (hc : U4 l N ks = true) (hpan : ∀ p T T' H n, Q (.pan p) T H n → Q (.pan p) T' H n)
   (h : ∀ K : (Nat → AV) → Heap → Nat → Prop, (∀ T H n, Q .normal T H n → K T H n) → dr P z N l (l.zip ks) T H n (Yw (fun T' H' n' => K (tsel live T') H' n') Q)) :
   awp P N (.region id l.toArray true) T H n Q :=
 Qi live <| awp_draw0 hm z ks hc (fun p T T' H n hq => hpan p T T' H n hq) (by
   have hlen : ks.length = l.length := by
     unfold U4 at hc; simp only [Bool.and_eq_true, beq_iff_eq] at hc; exact hc.1.1
   rw [List.range_eq_range']
   exact dr_drun l.length 0 T H n (by omega) hlen (by simpa using h (fun T' H' n' => Q .normal T' H' n') (fun _ _ _ h => h)))
def Wk (a b : AV) : Prop := a.sz = b.sz ∧ ∀ c m cs, Rel c a m cs → Rel c b m cs
theorem Wk.refl (a : AV) : Wk a a := ⟨rfl, fun _ _ _ h => h⟩
theorem Wk.nilsl (e : Nat) : Wk .nilsl (.sl e []) := ⟨rfl, fun c m cs h => by
 simp only [Rel] at h ⊢; subst h; exact ⟨none, 0, by simp, by simp, by simp, .inl (by simp)⟩⟩
theorem Wk.junk (a : AV) : ∀ c v, Rel c a false [v] → Rel c .junk false [v] := fun c v _ => by simp [Rel]
def WkL : List AV → List AV → Prop
 | [], [] => True
 | a :: l, b :: m => Wk a b ∧ WkL l m
 | _, _ => False
theorem WkL.refl : ∀ l, WkL l l
 | [] => trivial
 | a :: l => ⟨.refl a, WkL.refl l⟩
theorem WkL.relF {c : Ctx} : ∀ {l m : List AV} {cs : List Value}, WkL l m → RelF c l cs → RelF c m cs
 | [], [], _, _, h => h
 | a :: l, b :: m, cs, hw, h => by
   simp only [RelF] at h ⊢
   obtain ⟨c1, c2, e, h1, h2⟩ := h
   exact ⟨c1, c2, e, hw.1.2 _ _ _ h1, hw.2.relF h2⟩
 | [], _ :: _, _, hw, _ => hw.elim
 | _ :: _, [], _, hw, _ => hw.elim
theorem WkL.relT {c : Ctx} : ∀ {l m : List AV} {cs : List Value}, WkL l m → RelT c l cs → RelT c m cs
 | [], [], _, _, h => h
 | a :: l, b :: m, cs, hw, h => by
   simp only [RelT] at h ⊢
   obtain ⟨c1, c2, e, h1, h2⟩ := h
   exact ⟨c1, c2, e, hw.1.2 _ _ _ h1, hw.2.relT h2⟩
 | [], _ :: _, _, hw, _ => hw.elim
 | _ :: _, [], _, hw, _ => hw.elim
theorem WkL.szs : ∀ {l m : List AV}, WkL l m → AV.szs l = AV.szs m
 | [], [], _ => rfl
 | a :: l, b :: m, hw => by simp only [AV.szs]; rw [hw.1.1, hw.2.szs]
 | [], _ :: _, hw => hw.elim
 | _ :: _, [], hw => hw.elim
theorem WkL.len : ∀ {l m : List AV}, WkL l m → l.length = m.length
 | [], [], _ => rfl
 | a :: l, b :: m, hw => by simp [hw.2.len]
 | [], _ :: _, hw => hw.elim
 | _ :: _, [], hw => hw.elim
theorem Wk.agg {l m : List AV} (h : WkL l m) : Wk (.agg l) (.agg m) := ⟨by simp only [AV.sz]; exact h.szs, fun c mm cs hr => by
 cases mm with
 | true => simp only [Rel] at hr ⊢; exact h.relF hr
 | false => simp only [Rel] at hr ⊢; obtain ⟨arr, e, hr⟩ := hr; exact ⟨arr, e, h.relF hr⟩⟩
theorem Wk.tup {l m : List AV} (h : WkL l m) : Wk (.tup l) (.tup m) := ⟨rfl, fun c mm cs hr => by
 cases mm with
 | true => simp [Rel] at hr
 | false => simp only [Rel] at hr ⊢; obtain ⟨arr, e, hr⟩ := hr; exact ⟨arr, e, h.relT hr⟩⟩
theorem WkL.szAll {e : Nat} : ∀ {l m : List AV}, WkL l m → (∀ x ∈ l, x.sz = e) → ∀ x ∈ m, x.sz = e
 | [], [], _, _, x, hx => by simp at hx
 | a :: l, b :: m, hw, h, x, hx => by
   rcases List.mem_cons.1 hx with rfl | hx
   ·rw [← hw.1.1]; exact h a (by simp)
   ·exact hw.2.szAll (fun y hy => h y (by simp [hy])) x hx
 | [], _ :: _, hw, _, _, _ => hw.elim
 | _ :: _, [], hw, _, _, _ => hw.elim
theorem Wk.sl {e : Nat} {l m : List AV} (h : WkL l m) : Wk (.sl e l) (.sl e m) := ⟨rfl, fun c mm cs hr => by
 simp only [Rel] at hr ⊢
 obtain ⟨a, cap, ev, hc, hz, hx⟩ := hr
 have hl := h.len
 refine ⟨a, cap, by rw [← hl]; exact ev, by rw [← hl]; exact hc, h.szAll hz, hx.imp ?_ ?_⟩
 ·intro e; subst e; cases m with
  | nil => rfl
  | cons _ _ => exact h.elim
 ·rintro ⟨b, off, arr, ds, e1, hb, hd, ha⟩
  exact ⟨b, off, arr, ds, e1, hb, h.relF hd, ha⟩⟩
theorem Zx.wk {P : Program} {f : FuncId} {args args' : List AV} {H : Heap} {n : Nat} {K : ARes → Heap → Nat → Prop} (hw : WkL args args') (h : Zx P f args' H n K) : Zx P f args H n K :=
 fun c w vs hs hr => h c w vs hs (hw.relT hr)
theorem Ret.wk {P : Program} {f : FuncId} {args args' : List AV} {H : Heap} {n : Nat} {r : AV} {H' : Heap} {n' : Nat} (h : Ret P f args' H n r H' n') (hw : WkL args args') : Ret P f args H n r H' n' := Zx.wk hw h
def Adp (n : Nat) (a b : AV) : Prop := a.sz = b.sz ∧ ∀ c m cs, c.ρ n 0 = some .nil → Rel c a m cs → Rel c b m cs
theorem Adp.refl (n : Nat) (a : AV) : Adp n a a := ⟨rfl, fun _ _ _ _ h => h⟩
theorem Adp.nilsl (n : Nat) : Adp n .nilsl (.osl n 0 0 0) := ⟨rfl, fun c m cs hl h => by
 simp only [Rel] at h ⊢; exact ⟨.nil, hl, by simp, by simp, h⟩⟩
def AdpL (n : Nat) : List AV → List AV → Prop
 | [], [] => True
 | a :: l, b :: m => Adp n a b ∧ AdpL n l m
 | _, _ => False
theorem AdpL.relF {n : Nat} {c : Ctx} (hl : c.ρ n 0 = some .nil) : ∀ {l m : List AV} {cs : List Value}, AdpL n l m → RelF c l cs → RelF c m cs
 | [], [], _, _, h => h
 | a :: l, b :: m, cs, hw, h => by
   simp only [RelF] at h ⊢
   obtain ⟨c1, c2, e, h1, h2⟩ := h
   exact ⟨c1, c2, e, hw.1.2 _ _ _ hl h1, AdpL.relF hl hw.2 h2⟩
 | [], _ :: _, _, hw, _ => hw.elim
 | _ :: _, [], _, hw, _ => hw.elim
theorem AdpL.szs {n : Nat} : ∀ {l m : List AV}, AdpL n l m → AV.szs l = AV.szs m
 | [], [], _ => rfl
 | a :: l, b :: m, hw => by simp only [AV.szs]; rw [hw.1.1, hw.2.szs]
 | [], _ :: _, hw => hw.elim
 | _ :: _, [], hw => hw.elim
theorem AdpL.len {n : Nat} : ∀ {l m : List AV}, AdpL n l m → l.length = m.length
 | [], [], _ => rfl
 | a :: l, b :: m, hw => by simp [hw.2.len]
 | [], _ :: _, hw => hw.elim
 | _ :: _, [], hw => hw.elim
theorem AdpL.szAll {n e : Nat} : ∀ {l m : List AV}, AdpL n l m → (∀ x ∈ l, x.sz = e) → ∀ x ∈ m, x.sz = e
 | [], [], _, _, x, hx => by simp at hx
 | a :: l, b :: m, hw, h, x, hx => by
   rcases List.mem_cons.1 hx with rfl | hx
   ·rw [← hw.1.1]; exact h a (by simp)
   ·exact hw.2.szAll (fun y hy => h y (by simp [hy])) x hx
 | [], _ :: _, hw, _, _, _ => hw.elim
 | _ :: _, [], hw, _, _, _ => hw.elim
theorem Adp.agg {n : Nat} {l m : List AV} (h : AdpL n l m) : Adp n (.agg l) (.agg m) := ⟨by simp only [AV.sz]; exact h.szs, fun c mm cs hl hr => by
 cases mm with
 | true => simp only [Rel] at hr ⊢; exact h.relF hl hr
 | false => simp only [Rel] at hr ⊢; obtain ⟨arr, e, hr⟩ := hr; exact ⟨arr, e, h.relF hl hr⟩⟩
theorem MU {c : Ctx} {H : Heap} {n : Nat} {w : World} (hs : Sim c H n w) (esz : Nat) : Step c H w (c.addLoc n 0 .nil) (H.put n (some (.arr 0 esz []))) (n + 1) w := by
 have hf := hs.fresh n (Nat.le_refl _)
 refine Step.renew (n' := n + 1) hs n (.arr 0 esz []) .nil (by omega) (by omega) (hf.2 0) (fun v _ => hf.2 v) (.refl _ _) (fun _ _ _ _ _ _ => rfl) (fun _ _ _ => rfl) ?_ (fun b cap e h => by simp at h)
 simp only [Ya]
 exact ⟨_, MH, trivial⟩
theorem Yb {P : Program} {N : Nat} {code : Code} {T : Nat → AV} {H : Heap} {n : Nat} {Q : AEx → (Nat → AV) → Heap → Nat → Prop} (t : Tmp) (esz : Nat) (hT : T t = .nilsl)
   (h : awp P N code (tput T (some t) (.osl n 0 0 0)) (H.put n (some (.arr 0 esz []))) (n + 1) Q) : awp P N code T H n Q :=
 Um (fun c w tmps hs hr => by
   have hst := MU hs esz
   refine ⟨_, hst, fun u => ?_⟩
   have hu := Rel.mono hst.le _ _ _ (hr u)
   simp only [tput]
   split
   ·rename_i e; subst e; rw [hT] at hu; exact (Adp.nilsl n).2 _ _ _ MH hu
   ·exact hu) h
theorem MS {c : Ctx} {H : Heap} {n : Nat} {w : World} (hs : Sim c H n w) {k ver e : Nat} {els els' : List AV} (hk : H k = some (.arr ver e els))
   (hrel : ∀ ds, RelF c els ds → RelF c els' ds) (hlen : els'.length = els.length) (hsz : (∀ x ∈ els, x.sz = e) → ∀ x ∈ els', x.sz = e) : Step c H w c (H.put k (some (.arr ver e els'))) n w := by
 refine Step.write hs k _ (.arr ver e els') hk rfl (.refl _ _) (fun _ _ _ _ _ _ => rfl) (fun _ _ _ => rfl) ?_
 have ho := hs.own k _ hk
 simp only [Ya] at ho ⊢
 obtain ⟨l, hl, hm⟩ := ho
 refine ⟨l, hl, ?_⟩
 cases l with
 | nil =>
   simp only at hm
   subst hm
   exact List.length_eq_zero_iff.1 (by simpa using hlen)
 | blk b cap e' =>
   obtain ⟨he, hz, hc, arr, ty, ds, hb, hs', hr, ha⟩ := hm
   exact ⟨he, hsz hz, by omega, arr, ty, ds, hb, hs', hrel _ hr, ha⟩
theorem Xk {P : Program} {N : Nat} {code : Code} {T : Nat → AV} {H : Heap} {n : Nat} {Q : AEx → (Nat → AV) → Heap → Nat → Prop} (k esz : Nat) {ver e : Nat} {els els' : List AV} (hk : H k = some (.arr ver e els)) (ha : AdpL n els els')
   (h : awp P N code T ((H.put n (some (.arr 0 esz []))).put k (some (.arr ver e els'))) (n + 1) Q) : awp P N code T H n Q :=
 Um (fun c w tmps hs hr => by
   have hst := MU hs esz
   have hkn : k ≠ n := fun e => by subst e; rw [(hs.fresh _ (Nat.le_refl _)).1] at hk; simp at hk
   have hst2 := MS (els' := els') hst.sim (k := k) (by rw [ME _ _ hkn]; exact hk) (fun ds hd => ha.relF MH hd) ha.len.symm ha.szAll
   exact ⟨_, hst.trans hst2, Z4.mono (hst.trans hst2).le hr⟩) h
theorem awp_wk_tmp {P : Program} {N : Nat} {code : Code} {T : Nat → AV} {H : Heap} {n : Nat} {Q : AEx → (Nat → AV) → Heap → Nat → Prop} (t : Tmp) (v : AV) (hT : Wk (T t) v)
   (h : awp P N code (tput T (some t) v) H n Q) : awp P N code T H n Q :=
 Um (fun c w tmps hs hr => ⟨c, .refl hs, fun u => by
   simp only [tput]
   split
   ·rename_i e; subst e; exact hT.2 _ _ _ (hr _)
   ·exact hr u⟩) h
mutual
def AV.kl (n : Nat) : AV → Prop
 | .loc k _ _ _ _ => k < n
 | .osl k _ _ _ => k < n
 | .omap k => k < n
 | .rp d => d.kl n
 | .sl _ xs => MK n xs
 | .agg fs => MK n fs
 | .tup fs => MK n fs
 | .fn _ a b => MK n a ∧ MK n b
 | .iface _ v => v.kl n
 | .opt g v => g = true → v.kl n
 | _ => True
def MK (n : Nat) : List AV → Prop
 | [] => True
 | f :: fs => f.kl n ∧ MK n fs
end
theorem AV.kls_iff (n : Nat) (l : List AV) : MK n l ↔ ∀ x ∈ l, x.kl n := by
 induction l with
 | nil => simp [MK]
 | cons a l ih => simp [MK, ih]
def Ctx.under (c : Ctx) (n : Nat) : Prop := ∀ k v, n ≤ k → c.ρ k v = none
mutual
theorem WL {c : Ctx} {n : Nat} (hu : c.under n) : ∀ (av : AV) (m : Bool) (cs : List Value), Rel c av m cs → av.kl n
 | .int _ _, _, _, _ => trivial
 | .bool _, _, _, _ => trivial
 | .str _, _, _, _ => trivial
 | .nilp, _, _, _ => trivial
 | .nilsl, _, _, _ => trivial
 | .nilf, _, _, _ => trivial
 | .nilm, _, _, _ => trivial
 | .nili, _, _, _ => trivial
 | .raw _, _, _, _ => trivial
 | .junk, _, _, _ => trivial
 | .rp d, _, _, h => by
   simp only [Rel] at h
   obtain ⟨b, off, arr, ds, _, _, hd, _⟩ := h
   simp only [AV.kl]; exact WL hu d _ _ hd
 | .loc k v _ _ _, _, _, h => by
   simp only [Rel] at h
   obtain ⟨b, cap, esz, hk, _⟩ := h
   simp only [AV.kl]
   rcases Nat.lt_or_ge k n with h | h
   ·exact h
   ·rw [hu k v h] at hk; simp at hk
 | .osl k v _ _, _, _, h => by
   simp only [Rel] at h
   obtain ⟨l, hk, _⟩ := h
   simp only [AV.kl]
   rcases Nat.lt_or_ge k n with h | h
   ·exact h
   ·rw [hu k v h] at hk; simp at hk
 | .omap k, _, _, h => by
   simp only [Rel] at h
   obtain ⟨b, cap, esz, hk, _⟩ := h
   simp only [AV.kl]
   rcases Nat.lt_or_ge k n with h | h
   ·exact h
   ·rw [hu k 0 h] at hk; simp at hk
 | .sl _ xs, _, _, h => by
   simp only [Rel] at h
   obtain ⟨a, cap, _, _, _, hx⟩ := h
   simp only [AV.kl]
   rcases hx with rfl | ⟨b, off, arr, ds, _, _, hd, _⟩
   ·trivial
   ·exact WJ hu xs _ hd
 | .agg fs, true, _, h => by simp only [Rel] at h; simp only [AV.kl]; exact WJ hu fs _ h
 | .agg fs, false, _, h => by simp only [Rel] at h; obtain ⟨arr, _, h⟩ := h; simp only [AV.kl]; exact WJ hu fs _ h
 | .tup fs, false, _, h => by simp only [Rel] at h; obtain ⟨arr, _, h⟩ := h; simp only [AV.kl]; exact VG hu fs _ h
 | .tup _, true, _, h => by simp [Rel] at h
 | .fn _ a b, _, _, h => by
   simp only [Rel] at h
   obtain ⟨fv, cv, _, h1, h2⟩ := h
   simp only [AV.kl]; exact ⟨VG hu a _ h1, VG hu b _ h2⟩
 | .iface _ v, _, _, h => by
   simp only [Rel] at h
   obtain ⟨x, _, h⟩ := h
   simp only [AV.kl]; exact WL hu v _ _ h
 | .opt g v, false, _, h => by
   simp only [Rel] at h
   simp only [AV.kl]
   intro hg
   rcases h with ⟨_, h⟩ | ⟨h, _⟩
   ·exact WL hu v _ _ h
   ·rw [hg] at h; simp at h
 | .opt _ _, true, _, h => by simp [Rel] at h
theorem WJ {c : Ctx} {n : Nat} (hu : c.under n) : ∀ (fs : List AV) (cs : List Value), RelF c fs cs → MK n fs
 | [], _, _ => trivial
 | f :: fs, _, h => by
   simp only [RelF] at h
   obtain ⟨c1, c2, _, h1, h2⟩ := h
   simp only [MK]; exact ⟨WL hu f _ _ h1, WJ hu fs _ h2⟩
theorem VG {c : Ctx} {n : Nat} (hu : c.under n) : ∀ (fs : List AV) (cs : List Value), RelT c fs cs → MK n fs
 | [], _, _ => trivial
 | f :: fs, _, h => by
   simp only [RelT] at h
   obtain ⟨c1, c2, _, h1, h2⟩ := h
   simp only [MK]; exact ⟨WL hu f _ _ h1, VG hu fs _ h2⟩
end
structure Ctx.low (c c' : Ctx) (n : Nat) : Prop where
 ρ : ∀ {k v l}, k < n → c.ρ k v = some l → c'.ρ k v = some l
 ro : ∀ {b a}, c.ro b = some a → c'.ro b = some a
mutual
theorem Rel.low {c c' : Ctx} {n : Nat} (h : c.low c' n) : ∀ (av : AV) (m : Bool) (cs : List Value), av.kl n → Rel c av m cs → Rel c' av m cs
 | .int _ _, _, _, _, hr => by simpa [Rel] using hr
 | .bool _, _, _, _, hr => by simpa [Rel] using hr
 | .str _, _, _, _, hr => by simpa [Rel] using hr
 | .nilp, _, _, _, hr => by simpa [Rel] using hr
 | .rp d, _, _, hk, hr => by
   simp only [Rel] at hr ⊢
   simp only [AV.kl] at hk
   obtain ⟨b, off, arr, ds, e, hb, hd, ha⟩ := hr
   exact ⟨b, off, arr, ds, e, h.ro hb, Rel.low h d _ _ hk hd, ha⟩
 | .loc _ _ _ _ _, _, _, hk, hr => by
   simp only [Rel] at hr ⊢
   simp only [AV.kl] at hk
   obtain ⟨b, cap, esz, hl, e⟩ := hr
   exact ⟨b, cap, esz, h.ρ hk hl, e⟩
 | .nilsl, _, _, _, hr => by simpa [Rel] using hr
 | .sl _ xs, _, _, hk, hr => by
   simp only [Rel] at hr ⊢
   simp only [AV.kl] at hk
   obtain ⟨a, cap, e, hc, hz, hx⟩ := hr
   refine ⟨a, cap, e, hc, hz, hx.imp id ?_⟩
   rintro ⟨b, off, arr, ds, e1, hb, hd, ha⟩
   exact ⟨b, off, arr, ds, e1, h.ro hb, RelF.low h xs _ hk hd, ha⟩
 | .osl _ _ _ _, _, _, hk, hr => by
   simp only [Rel] at hr ⊢
   simp only [AV.kl] at hk
   obtain ⟨l, hl, hm⟩ := hr
   exact ⟨l, h.ρ hk hl, hm⟩
 | .agg fs, true, _, hk, hr => by simp only [Rel] at hr ⊢; simp only [AV.kl] at hk; exact RelF.low h fs _ hk hr
 | .agg fs, false, _, hk, hr => by
   simp only [Rel] at hr ⊢
   simp only [AV.kl] at hk
   obtain ⟨arr, e, hf⟩ := hr
   exact ⟨arr, e, RelF.low h fs _ hk hf⟩
 | .tup vs, false, _, hk, hr => by
   simp only [Rel] at hr ⊢
   simp only [AV.kl] at hk
   obtain ⟨arr, e, hf⟩ := hr
   exact ⟨arr, e, RelT.low h vs _ hk hf⟩
 | .tup _, true, _, _, hr => by simp [Rel] at hr
 | .fn _ a b, _, _, hk, hr => by
   simp only [Rel] at hr ⊢
   simp only [AV.kl] at hk
   obtain ⟨fv, cv, e, h1, h2⟩ := hr
   exact ⟨fv, cv, e, RelT.low h a _ hk.1 h1, RelT.low h b _ hk.2 h2⟩
 | .nilf, _, _, _, hr => by simpa [Rel] using hr
 | .nilm, _, _, _, hr => by simpa [Rel] using hr
 | .omap _, _, _, hk, hr => by
   simp only [Rel] at hr ⊢
   simp only [AV.kl] at hk
   obtain ⟨b, cap, esz, hl, e⟩ := hr
   exact ⟨b, cap, esz, h.ρ hk hl, e⟩
 | .nili, _, _, _, hr => by simpa [Rel] using hr
 | .iface _ v, _, _, hk, hr => by
   simp only [Rel] at hr ⊢
   simp only [AV.kl] at hk
   obtain ⟨x, e, hx⟩ := hr
   exact ⟨x, e, Rel.low h v _ _ hk hx⟩
 | .opt g v, false, _, hk, hr => by
   simp only [Rel] at hr ⊢
   simp only [AV.kl] at hk
   exact hr.imp (fun ⟨a, b⟩ => ⟨a, Rel.low h v _ _ (hk a) b⟩) id
 | .opt _ _, true, _, _, hr => by simp [Rel] at hr
 | .raw _, _, _, _, hr => by simpa [Rel] using hr
 | .junk, _, _, _, hr => by simpa [Rel] using hr
theorem RelF.low {c c' : Ctx} {n : Nat} (h : c.low c' n) : ∀ (fs : List AV) (cs : List Value), MK n fs → RelF c fs cs → RelF c' fs cs
 | [], _, _, hr => by simpa [RelF] using hr
 | f :: fs, _, hk, hr => by
   simp only [RelF] at hr ⊢
   simp only [MK] at hk
   obtain ⟨c1, c2, e, h1, h2⟩ := hr
   exact ⟨c1, c2, e, Rel.low h f _ _ hk.1 h1, RelF.low h fs _ hk.2 h2⟩
theorem RelT.low {c c' : Ctx} {n : Nat} (h : c.low c' n) : ∀ (fs : List AV) (cs : List Value), MK n fs → RelT c fs cs → RelT c' fs cs
 | [], _, _, hr => by simpa [RelT] using hr
 | f :: fs, _, hk, hr => by
   simp only [RelT] at hr ⊢
   simp only [MK] at hk
   obtain ⟨v, r, e, h1, h2⟩ := hr
   exact ⟨v, r, e, Rel.low h f _ _ hk.1 h1, RelT.low h fs _ hk.2 h2⟩
end
def AObj.kl (n : Nat) : AObj → Prop
 | .arr _ _ els => MK n els
 | .map es => ∀ e ∈ es, e.1.kl n ∧ e.2.kl n
 | .glob _ els => MK n els
mutual
inductive Frz (H : Heap) (n : Nat) : AV → AV → Prop
 | kl {a : AV} : a.kl n → Frz H n a a
 | osl {k ver off len e : Nat} {els ys : List AV} : H k = some (.arr ver e els) → n ≤ k → off + len ≤ els.length → FrzL H n ((els.drop off).take len) ys → Frz H n (.osl k ver off len) (.sl e ys)
 | loc {k ver off i e : Nat} {els : List AV} {p : List Nat} {y : AV} : H k = some (.arr ver e els) → n ≤ k → i < els.length → off = i * e + (nth els i).pathOff p → (nth els i).pathOK p → Frz H n ((nth els i).at p) y → Frz H n (.loc k ver off i p) (.rp y)
 | agg {fs gs : List AV} : FrzL H n fs gs → Frz H n (.agg fs) (.agg gs)
 | tup {fs gs : List AV} : FrzL H n fs gs → Frz H n (.tup fs) (.tup gs)
 | sl {e : Nat} {fs gs : List AV} : FrzL H n fs gs → Frz H n (.sl e fs) (.sl e gs)
 | fn {f : Fn} {a b a' b' : List AV} : FrzL H n a a' → FrzL H n b b' → Frz H n (.fn f a b) (.fn f a' b')
 | nilsl {e : Nat} : Frz H n .nilsl (.sl e [])
inductive FrzL (H : Heap) (n : Nat) : List AV → List AV → Prop
 | nil : FrzL H n [] []
 | cons {a b : AV} {l m : List AV} : Frz H n a b → FrzL H n l m → FrzL H n (a :: l) (b :: m)
end
mutual
theorem Frz.sz {H : Heap} {n : Nat} : ∀ {a b : AV}, Frz H n a b → a.sz = b.sz
 | _, _, .kl _ => rfl
 | _, _, .osl _ _ _ _ => rfl
 | _, _, .loc _ _ _ _ _ _ => rfl
 | _, _, .agg h => by simp only [AV.sz]; exact h.szs
 | _, _, .tup _ => rfl
 | _, _, .sl _ => rfl
 | _, _, .fn _ _ => rfl
 | _, _, .nilsl => rfl
theorem FrzL.szs {H : Heap} {n : Nat} : ∀ {a b : List AV}, FrzL H n a b → AV.szs a = AV.szs b
 | _, _, .nil => rfl
 | _, _, .cons h1 h2 => by simp only [AV.szs]; rw [h1.sz, h2.szs]
end
theorem FrzL.len {H : Heap} {n : Nat} : ∀ {a b : List AV}, FrzL H n a b → a.length = b.length
 | _, _, .nil => rfl
 | _, _, .cons _ h => by simp [h.len]
theorem FrzL.szAll {H : Heap} {n e : Nat} : ∀ {a b : List AV}, FrzL H n a b → (∀ x ∈ a, x.sz = e) → ∀ x ∈ b, x.sz = e
 | _, _, .nil, _, x, hx => by simp at hx
 | _, _, .cons h1 h2, h, x, hx => by
   rcases List.mem_cons.1 hx with rfl | hx
   ·rw [← h1.sz]; exact h _ (by simp)
   ·exact h2.szAll (fun y hy => h y (by simp [hy])) x hx
open Classical in
noncomputable def Ctx.frz (c : Ctx) (H : Heap) (n : Nat) (w : World) : Ctx where
 ρ := fun k v => if k < n then c.ρ k v else none
 ro := fun b => match c.ro b with
   | some a => some a
   | none => if ∃ k ver e els, n ≤ k ∧ H k = some (.arr ver e els) ∧ Zw c k (.arr ver e els) = some b then
       (match w.heap[b]? with | some (.cells a _ _) => some a | _ => none) else none
theorem Ctx.frz_low (c : Ctx) (H : Heap) (n : Nat) (w : World) : c.low (c.frz H n w) n where
 ρ := fun {k v l} hk h => by show (if k < n then c.ρ k v else none) = some l; rw [if_pos hk]; exact h
 ro := fun {b a} h => by simp only [Ctx.frz, h]
theorem M9 {c : Ctx} {H : Heap} {n n' : Nat} {w : World} (hs : Sim c H n' w) {k ver e : Nat} {els : List AV} (hk : H k = some (.arr ver e els)) (hn : n ≤ k) {b : Nat} (hb : Zw c k (.arr ver e els) = some b) {arr : Array Value} {ty : TypeId} {fr : Nat × Nat} (hw : w.heap[b]? = some (.cells arr ty fr)) :
   (c.frz H n w).ro b = some arr := by
 have h0 := hs.sep k _ b hk hb
 simp only [Ctx.frz, h0]
 rw [if_pos ⟨k, ver, e, els, hn, hk, hb⟩, hw]
mutual
theorem Frz.rel {c : Ctx} {H : Heap} {n n' : Nat} {w : World} (hs : Sim c H n' w) : ∀ {a b : AV}, Frz H n a b → ∀ {m : Bool} {cs : List Value}, Rel c a m cs → Rel (c.frz H n w) b m cs
 | _, _, .kl hk, _, _, hr => Rel.low (c.frz_low H n w) _ _ _ hk hr
 | _, _, .osl (k := k) (ver := ver) (off := off) (len := len) (e := e) (els := els) (ys := ys) hk hn hlen hL, m, cs, hr => by
   have hys := hL.len
   have hlen' : ((els.drop off).take len).length = len := by simp; omega
   rw [hlen'] at hys
   have ho := hs.own k _ hk
   simp only [Ya] at ho
   obtain ⟨l, hl, hm⟩ := ho
   simp only [Rel] at hr ⊢
   obtain ⟨l', hl', hmm⟩ := hr
   rw [hl] at hl'; cases hl'
   cases l with
   | nil =>
     obtain ⟨_, h2, ev⟩ := hmm
     subst h2
     have : ys = [] := List.length_eq_zero_iff.1 hys.symm
     subst this
     exact ⟨none, 0, by simpa using ev, by simp, by simp, .inl (by simp)⟩
   | blk b cap e' =>
     obtain ⟨he, hz, hc, arr, ty, ds, hb, hsz, hrf, ha⟩ := hm
     subst he
     obtain ⟨cp, o', h1, h2, h3, ev⟩ := hmm
     have hbo : Zw c k (.arr ver e' els) = some b := by simp [Zw, AObj.ver, hl]
     refine ⟨_, cp, by rw [← hys]; exact ev, by rw [← hys]; exact h1, hL.szAll fun x hx => hz x (List.mem_of_mem_drop (List.mem_of_mem_take hx)), ?_⟩
     by_cases h0 : len = 0
     ·left; exact List.length_eq_zero_iff.1 (by omega)
     ·right
      have eo : o' = off * e' := by rcases h3 with h3 | h3 <;> omega
      subst eo
      have e1 : els = els.take off ++ ((els.drop off).take len ++ (els.drop off).drop len) := by rw [List.take_append_drop, List.take_append_drop]
      rw [e1] at hrf
      obtain ⟨d1, r1, ed, hr1, hr2⟩ := RelF.append.1 hrf
      obtain ⟨d2, d3, ed2, hr3, hr4⟩ := RelF.append.1 hr2
      subst ed; subst ed2
      have hl1 : d1.length = off * e' := by
        rw [(RelF.len _ _ hr1).1, MI (fun x hx => hz x (List.mem_of_mem_take hx)), List.length_take, Nat.min_eq_left (by omega)]
      obtain ⟨_, ha2⟩ := At.append.1 ha
      obtain ⟨ha3, _⟩ := At.append.1 ha2
      exact ⟨b, off * e', arr, d2, rfl, M9 hs hk hn hbo hb, FrzL.relF hs hL hr3, by rw [← hl1]; simpa using ha3⟩
 | _, _, .loc (k := k) (ver := ver) (off := off) (i := i) (e := e) (els := els) (p := p) (y := y) hk hn hi ho hp hF, m, cs, hr => by
   simp only [Rel] at hr ⊢
   obtain ⟨b, cap, e', hl, ev⟩ := hr
   have hown := hs.own k _ hk
   obtain ⟨he, hc, arr, ty, ds, x, hb, hsz, hrf, ha, hx, hax, _⟩ := hown.elem hl hi
   subst he
   have hbo : Zw c k (.arr ver e' els) = some b := by simp [Zw, AObj.ver, hl]
   obtain ⟨a1, y', b1, ey, hly, hy⟩ := Rel.path p _ _ hx hp
   subst ey
   obtain ⟨_, ha2⟩ := At.append.1 hax
   obtain ⟨ha3, _⟩ := At.append.1 ha2
   exact ⟨b, off, arr, y', ev, M9 hs hk hn hbo hb, Frz.rel hs hF hy, by rw [ho]; unfold nth; rw [← hly]; simpa using ha3⟩
 | _, _, .agg h, true, cs, hr => by simp only [Rel] at hr ⊢; exact FrzL.relF hs h hr
 | _, _, .agg h, false, cs, hr => by simp only [Rel] at hr ⊢; obtain ⟨arr, e, hr⟩ := hr; exact ⟨arr, e, FrzL.relF hs h hr⟩
 | _, _, .tup h, true, cs, hr => by simp [Rel] at hr
 | _, _, .tup h, false, cs, hr => by simp only [Rel] at hr ⊢; obtain ⟨arr, e, hr⟩ := hr; exact ⟨arr, e, FrzL.relT hs h hr⟩
 | _, _, .sl (fs := fs) (gs := gs) h, m, cs, hr => by
   simp only [Rel] at hr ⊢
   obtain ⟨a, cap, ev, hc, hz, hx⟩ := hr
   have hl := h.len
   refine ⟨a, cap, by rw [← hl]; exact ev, by rw [← hl]; exact hc, h.szAll hz, hx.imp ?_ ?_⟩
   ·intro e; subst e; exact List.length_eq_zero_iff.1 (by simpa using hl.symm)
   ·rintro ⟨b, off, arr, ds, e1, hb, hd, ha⟩
    exact ⟨b, off, arr, ds, e1, (c.frz_low H n w).ro hb, FrzL.relF hs h hd, ha⟩
 | _, _, .fn h1 h2, m, cs, hr => by
   simp only [Rel] at hr ⊢
   obtain ⟨fv, cv, e, h3, h4⟩ := hr
   exact ⟨fv, cv, e, FrzL.relT hs h1 h3, FrzL.relT hs h2 h4⟩
 | _, _, .nilsl (e := e), m, cs, hr => (Wk.nilsl e).2 _ _ _ (by simpa [Rel] using hr)
theorem FrzL.relF {c : Ctx} {H : Heap} {n n' : Nat} {w : World} (hs : Sim c H n' w) : ∀ {a b : List AV}, FrzL H n a b → ∀ {cs : List Value}, RelF c a cs → RelF (c.frz H n w) b cs
 | _, _, .nil, _, hr => by simpa [RelF] using hr
 | _, _, .cons h1 h2, _, hr => by
   simp only [RelF] at hr ⊢
   obtain ⟨c1, c2, e, h3, h4⟩ := hr
   exact ⟨c1, c2, e, Frz.rel hs h1 h3, FrzL.relF hs h2 h4⟩
theorem FrzL.relT {c : Ctx} {H : Heap} {n n' : Nat} {w : World} (hs : Sim c H n' w) : ∀ {a b : List AV}, FrzL H n a b → ∀ {cs : List Value}, RelT c a cs → RelT (c.frz H n w) b cs
 | _, _, .nil, _, hr => by simpa [RelT] using hr
 | _, _, .cons h1 h2, _, hr => by
   simp only [RelT] at hr ⊢
   obtain ⟨c1, c2, e, h3, h4⟩ := hr
   exact ⟨c1, c2, e, Frz.rel hs h1 h3, FrzL.relT hs h2 h4⟩
end
theorem RelM.low {c c' : Ctx} {n : Nat} (h : c.low c' n) : ∀ (es : List (AV × AV)) (l : List MapEntry), (∀ e ∈ es, e.1.kl n ∧ e.2.kl n) → RelM c es l → RelM c' es l
 | [], _, _, hr => by simpa [RelM] using hr
 | (k, v) :: es, _, hk, hr => by
   simp only [RelM] at hr ⊢
   obtain ⟨e, r, e1, h1, h2, h3⟩ := hr
   have := hk (k, v) (by simp)
   exact ⟨e, r, e1, Rel.low h k _ _ this.1 h1, Rel.low h v _ _ this.2 h2, RelM.low h es _ (fun e he => hk e (by simp [he])) h3⟩
theorem LP {c : Ctx} {n : Nat} (hu : c.under n) : ∀ (es : List (AV × AV)) (l : List MapEntry), RelM c es l → ∀ e ∈ es, e.1.kl n ∧ e.2.kl n
 | [], _, _, e, he => by simp at he
 | (k, v) :: es, _, hr, e, he => by
   simp only [RelM] at hr
   obtain ⟨x, r, e1, h1, h2, h3⟩ := hr
   rcases List.mem_cons.1 he with rfl | he
   ·exact ⟨WL hu _ _ _ h1, WL hu _ _ _ h2⟩
   ·exact LP hu es r h3 e he
theorem Ya.kl {c : Ctx} {n k : Nat} {w : World} {o : AObj} (hu : c.under n) (h : Ya c k w o) : o.kl n := by
 cases o with
 | arr ver e els =>
   simp only [Ya] at h
   obtain ⟨l, _, hm⟩ := h
   cases l with
   | nil => simp only at hm; subst hm; trivial
   | blk b cap e' =>
     obtain ⟨_, _, _, arr, ty, ds, _, _, hr, _⟩ := hm
     exact WJ hu els _ hr
 | map es =>
   simp only [Ya] at h
   obtain ⟨b, cap, e, entries, clock, _, _, hr⟩ := h
   exact LP hu es _ hr
 | glob e els =>
   simp only [Ya] at h
   obtain ⟨_, _, arr, ds, _, hr, _⟩ := h
   exact WJ hu els _ hr
theorem Ya.low {c c' : Ctx} {n k : Nat} {w : World} {o : AObj} (hl : c.low c' n) (hk : k < n) (hkl : o.kl n) (h : Ya c k w o) : Ya c' k w o := by
 cases o with
 | arr ver e els =>
   simp only [Ya] at h ⊢
   obtain ⟨l, h1, hm⟩ := h
   refine ⟨l, hl.ρ hk h1, ?_⟩
   cases l with
   | nil => exact hm
   | blk b cap e' =>
     obtain ⟨h1, h2, h3, arr, ty, ds, h4, h5, hr, h6⟩ := hm
     exact ⟨h1, h2, h3, arr, ty, ds, h4, h5, RelF.low hl _ _ hkl hr, h6⟩
 | map es =>
   simp only [Ya] at h ⊢
   obtain ⟨b, cap, e, entries, clock, h1, h2, hr⟩ := h
   exact ⟨b, cap, e, entries, clock, hl.ρ hk h1, h2, RelM.low hl es _ hkl hr⟩
 | glob e els =>
   simp only [Ya] at h ⊢
   obtain ⟨h1, h2, arr, ds, h3, hr, ha⟩ := h
   exact ⟨hl.ρ hk h1, h2, arr, ds, hl.ro h3, RelF.low hl _ _ hkl hr, ha⟩
theorem Step.fin {c0 c : Ctx} {H0 H H' : Heap} {n n' : Nat} {w0 w : World} (hs0 : Sim c0 H0 n w0) (h : Step c0 H0 w0 c H n' w)
   (hlow : ∀ k, k < n → H' k = H k ∧ (H k = H0 k ∨ ∀ o, H k = some o → o.kl n)) (hhigh : ∀ k, n ≤ k → H' k = H0 k) : Step c0 H0 w0 (c.frz H n w) H' n w := by
 have hu : c0.under n := fun k v hk => (hs0.fresh k hk).2 v
 have hnone : ∀ k, n ≤ k → H' k = none := fun k hk => by rw [hhigh k hk]; exact (hs0.fresh k hk).1
 have hkl : ∀ k o, H' k = some o → k < n ∧ H k = some o ∧ o.kl n := fun k o hk => by
   have hkn : k < n := by
     rcases Nat.lt_or_ge k n with h | h
     ·exact h
     ·rw [hnone k h] at hk; simp at hk
   obtain ⟨h1, h2⟩ := hlow k hkn
   rw [h1] at hk
   refine ⟨hkn, hk, ?_⟩
   rcases h2 with h2 | h2
   ·exact (hs0.own k o (by rw [← h2]; exact hk)).kl hu
   ·exact h2 o hk
 have hbo : ∀ k o, k < n → Zw (c.frz H n w) k o = Zw c k o := fun k o hk => by
   unfold Zw
   have : (c.frz H n w).ρ k o.ver = c.ρ k o.ver := by show (if k < n then _ else none) = _; rw [if_pos hk]
   rw [this]
 exact {
   le := {
     ρ := fun {k v l} hk => by
       have hkn : k < n := by
         rcases Nat.lt_or_ge k n with h | h
         ·exact h
         ·rw [hu k v h] at hk; simp at hk
       exact (c.frz_low H n w).ρ hkn (h.le.ρ hk)
     ro := fun hb => (c.frz_low H n w).ro (h.le.ro hb) }
   sim := {
     ro := fun b a hb => by
       simp only [Ctx.frz] at hb
       split at hb
       ·rename_i a' hr; cases hb; exact h.sim.ro b _ hr
       ·split at hb
        ·split at hb
         ·rename_i _ _ hw; cases hb; exact ⟨_, _, hw⟩
         ·simp at hb
        ·simp at hb
     own := fun k o hk => by
       obtain ⟨h1, h2, h3⟩ := hkl k o hk
       exact (h.sim.own k o h2).low (c.frz_low H n w) h1 h3
     sep := fun k o b hk hb => by
       obtain ⟨h1, h2, h3⟩ := hkl k o hk
       rw [hbo k o h1] at hb
       have h4 := h.sim.sep k o b h2 hb
       simp only [Ctx.frz, h4]
       rw [if_neg]
       rintro ⟨k', ver, e, els, hn', hk', hb'⟩
       have := h.sim.inj k k' o _ b h2 hk' hb hb'
       omega
     inj := fun k k' o o' b h1 h2 b1 b2 => by
       obtain ⟨h3, h4, _⟩ := hkl k o h1
       obtain ⟨h5, h6, _⟩ := hkl k' o' h2
       rw [hbo k o h3] at b1
       rw [hbo k' o' h5] at b2
       exact h.sim.inj k k' o o' b h4 h6 b1 b2
     fresh := fun k hk => ⟨hnone k hk, fun v => by show (if k < n then _ else none) = none; rw [if_neg (by omega)]⟩
     vers := fun k o v hk hv => by
       obtain ⟨h3, h4, _⟩ := hkl k o hk
       show (if k < n then c.ρ k v else none) = none
       rw [if_pos h3]
       exact h.sim.vers k o v h4 hv }
   fr := h.fr
   new := fun b ⟨k, o, hk, hb⟩ => by
     obtain ⟨h3, h4, _⟩ := hkl k o hk
     rw [hbo k o h3] at hb
     exact h.new b ⟨k, o, h4, hb⟩ }
theorem Zx.fin {P : Program} {f : FuncId} {args : List AV} {H : Heap} {n : Nat} {K : ARes → Heap → Nat → Prop}
   (h : Zx P f args H n fun res H1 n' => ∃ r r' H', res = .val r ∧ (∀ k, k < n → H' k = H1 k ∧ (H1 k = H k ∨ ∀ o, H1 k = some o → o.kl n)) ∧ (∀ k, n ≤ k → H' k = H k) ∧ Frz H1 n r r' ∧ K (.val r') H' n) : Zx P f args H n K :=
 fun c w vs hs hr => (h c w vs hs hr).mono fun e w' ⟨res, c', H1, n', ⟨r, r', H', hres, hlow, hhigh, hfrz, Y⟩, hst, hm⟩ => by
   subst hres
   refine ⟨.val r', c'.frz H1 n w', H', n, Y, Step.fin hs hst hlow hhigh, ?_⟩
   cases e with
   | returned v => exact Frz.rel hst.sim hfrz hm
   | panicked _ => exact hm.elim
   | outgrown => exact hm.elim
theorem Ret.fin {P : Program} {f : FuncId} {args : List AV} {H : Heap} {n : Nat} {r' : AV}
   (h : Zx P f args H n fun res H1 n' => ∃ r, res = .val r ∧ (∀ k, k < n → H1 k = H k) ∧ Frz H1 n r r') : Ret P f args H n r' H n :=
 Zx.fin (h.mono fun res H1 n' ⟨r, hr, hk, hf⟩ => ⟨r, r', H, hr, fun k hkn => ⟨(hk k hkn).symm, .inl (hk k hkn)⟩, fun _ _ => rfl, hf, rfl, rfl, rfl⟩)
section
variable (P : Program) (z : TypeId → AV) (T : Nat → AV) (H H' : Heap) (dst : Option Tmp) (ty : TypeId) (pos : String) (after : Array Edge) (gd : Option (Nat × Bool))
theorem sameC_none : XK P z T H H' none = True := rfl
theorem KH (t : TypeId) (x : Operand) (f : Nat) : XK P z T H H' (some ⟨dst, .fieldAddr t x f, ty, pos, after, gd⟩) = True := by cases gd <;> exact eq_true fun _ => rfl
theorem Lg (x : Operand) : XK P z T H H' (some ⟨dst, .nilCheck x, ty, pos, after, gd⟩) = True := by cases gd <;> exact eq_true fun _ => rfl
theorem sameC_binOp (o : BinOp) (t : TypeId) (x y : Operand) (t' : TypeId) : XK P z T H H' (some ⟨dst, .binOp o t x y t', ty, pos, after, gd⟩) = True := by cases gd <;> exact eq_true fun _ => rfl
theorem sameC_unOp (o : UnOp) (t : TypeId) (x : Operand) : XK P z T H H' (some ⟨dst, .unOp o t x, ty, pos, after, gd⟩) = True := by cases gd <;> exact eq_true fun _ => rfl
theorem sameC_extract (x : Operand) (i : Nat) : XK P z T H H' (some ⟨dst, .extract x i, ty, pos, after, gd⟩) = True := by cases gd <;> exact eq_true fun _ => rfl
theorem sameC_convert (s d : TypeId) (x : Operand) : XK P z T H H' (some ⟨dst, .convert s d x, ty, pos, after, gd⟩) = ∀ g, Yx P H' s d (strip g (evO T x)) = Yx P H s d (strip g (evO T x)) := by cases gd <;> rfl
theorem sameC_field (t : TypeId) (x : Operand) (f : Nat) : XK P z T H H' (some ⟨dst, .field t x f, ty, pos, after, gd⟩) = True := by cases gd <;> exact eq_true fun _ => rfl
theorem sameC_index (t : TypeId) (x i : Operand) : XK P z T H H' (some ⟨dst, .index t x i, ty, pos, after, gd⟩) = True := by cases gd <;> exact eq_true fun _ => rfl
theorem sameC_build (t : TypeId) (p : Array (Nat × Operand)) : XK P z T H H' (some ⟨dst, .build t p, ty, pos, after, gd⟩) = True := by cases gd <;> exact eq_true fun _ => rfl
theorem JR (t : TypeId) (k : Nat) (p : Array (Nat × Operand)) : XK P z T H H' (some ⟨dst, .buildSlice t k p, ty, pos, after, gd⟩) = True := by cases gd <;> exact eq_true fun _ => rfl
theorem Lh (f : Fn) (a b : Array Operand) : XK P z T H H' (some ⟨dst, .makeFunc f a b, ty, pos, after, gd⟩) = True := by cases gd <;> exact eq_true fun _ => rfl
theorem sameC_pick (c a b : Operand) : XK P z T H H' (some ⟨dst, .pick c a b, ty, pos, after, gd⟩) = True := by cases gd <;> exact eq_true fun _ => rfl
theorem sameC_move (x : Operand) : XK P z T H H' (some ⟨dst, .move x, ty, pos, after, gd⟩) = True := by cases gd <;> exact eq_true fun _ => rfl
theorem sameC_assign (x : Operand) : XK P z T H H' (some ⟨dst, .assign x, ty, pos, after, gd⟩) = True := by cases gd <;> exact eq_true fun _ => rfl
theorem sameC_builtin (b : Builtin) (args : Array Operand) (ts : Array TypeId) : XK P z T H H' (some ⟨dst, .call ⟨.builtin b, args, ts⟩, ty, pos, after, gd⟩) = True := by cases gd <;> exact eq_true fun _ => rfl
theorem sameC_load (t : TypeId) (x : Operand) : XK P z T H H' (some ⟨dst, .load t x, ty, pos, after, gd⟩) = ∀ g, VE P H' t (strip g (evO T x)) = VE P H t (strip g (evO T x)) := by cases gd <;> rfl
theorem KG (t : TypeId) (x i : Operand) : XK P z T H H' (some ⟨dst, .indexAddr t x i, ty, pos, after, gd⟩) = ∀ g, YD P H' t (strip g (evO T x)) (strip g (evO T i)) = YD P H t (strip g (evO T x)) (strip g (evO T i)) := by cases gd <;> rfl
theorem sameC_callf (fo : Operand) (args : List Operand) (ts : Array TypeId) : XK P z T H H' (some ⟨dst, .call ⟨.value fo, args.toArray, ts⟩, ty, pos, after, none⟩) = ∀ d, dst = some d → KD P (strip true (evO T fo)) (args.map fun x => strip true (evO T x)) H' (T d) := rfl
end
attribute [go_sem] sameC_none KH Lg sameC_binOp sameC_unOp sameC_extract sameC_convert sameC_field sameC_index sameC_build JR Lh sameC_pick sameC_move sameC_assign sameC_builtin sameC_load KG sameC_callf
theorem qLoad_bif (P : Program) (H H' : Heap) (t : TypeId) (c : Bool) (x : AV) : (VE P H' t (bif c then x else .junk) = VE P H t (bif c then x else .junk)) = (c = true → VE P H' t x = VE P H t x) := by
 cases c
 ·simp [VE]
 ·simp
theorem qIdx_bif (P : Program) (H H' : Heap) (t : TypeId) (c : Bool) (x i : AV) : (YD P H' t (bif c then x else .junk) i = YD P H t (bif c then x else .junk) i) = (c = true → YD P H' t x i = YD P H t x i) := by
 cases c
 ·simp [YD]
 ·simp
attribute [go_sem] qLoad_bif qIdx_bif qConvH_bif
theorem WN {P : Program} {N : Nat} {code : Code} {T : Nat → AV} {H : Heap} {n : Nat} {Q : AEx → (Nat → AV) → Heap → Nat → Prop} (k : Nat) {ver e : Nat} {els els' : List AV} (hk : H k = some (.arr ver e els)) (ha : WkL els els')
   (h : awp P N code T (H.put k (some (.arr ver e els'))) n Q) : awp P N code T H n Q :=
 Um (fun c w tmps hs hr => by
   have hst := MS (els' := els') hs hk (fun ds hd => ha.relF hd) ha.len.symm ha.szAll
   exact ⟨_, hst, Z4.mono hst.le hr⟩) h
attribute [go_sem] implies_true
theorem peel {A B : Prop} (b : B) (a : A := by first | omega | assumption | (simp; done) | (intros; simp_all; done) | decide) : A ∧ B := ⟨a, b⟩
theorem Ze {P : Program} {N : Nat} {T : Nat → AV} {H : Heap} {n : Nat} {Q : AEx → (Nat → AV) → Heap → Nat → Prop} {x : Operand} {s t : Code} {b : Bool} (ht : b = true → awp P N s T H n Q) (hf : b = false → awp P N t T H n Q)
 (hc : evO T x = .bool b := by simp only [go_sem, ↓reduceIte, Nat.reduceEqDiff, Nat.reduceLT, Nat.reduceSub, Nat.reduceAdd, Nat.reduceMul]; rfl) : awp P N (.cond x s t) T H n Q := awp_cond hc ht hf
theorem ZE {P : Program} {N id : Nat} {l : List Oper} {y : Code} {T T' : Nat → AV} {H H' : Heap} {n n' : Nat} {Q : AEx → (Nat → AV) → Heap → Nat → Prop} (z : TypeId → AV) (live : List Nat) (k : awp P N y T' H' n' Q)
 (h : ∀ K : (Nat → AV) → Heap → Nat → Prop, K T' H' n' → erun P z N l.toArray l T H n (Yw (fun T' H' n' => K (tsel live T') H' n') Q) := by (intro K Y; simp only [go_sem, ↓reduceIte, Nat.reduceEqDiff, Nat.reduceLT, Nat.reduceSub, Nat.reduceAdd, Nat.reduceMul]; (repeat refine peel ?_); exact Y)) :
 awp P N (.seq (.region id l.toArray false) y) T H n Q := Za z live fun K Y => h K (Y _ _ _ k)
end Go.Sx
namespace Go.Rt
open Go Go.Sx
structure Ent where
 row : List UInt8
 fam : Int
 qual : List UInt8
 ts : Int
 seq : Int
 kind : Int
 value : List UInt8
 deriving DecidableEq, Inhabited
structure Fml where
 name : List UInt8
 max : Int
 ttl : Int
 deriving DecidableEq, Inhabited
def bys (b : List UInt8) : AV := .sl 1 (b.map Zn)
def i64 (n : Int) : AV := .int .i64 n
def L9 (e : Ent) : AV := .agg [bys e.row, .int .i64 e.fam, bys e.qual, .int .i64 e.ts, .int .i64 e.seq, .int .i64 e.kind, bys e.value]
def entsAV (l : List Ent) : AV := .sl 7 (l.map L9)
def XG (f : Fml) : AV := .agg [.str f.name, .int .i64 f.max, .int .i64 f.ttl]
def Zt (s : List Fml) : AV := .agg [.sl 3 (s.map XG)]
theorem Y4 (b : List UInt8) : ∀ x ∈ b.map Zn, isByte x := fun x hx => by
 obtain ⟨y, _, rfl⟩ := List.mem_map.1 hx
 simp only [Zn, isByte]
 have := y.toNat_lt
 omega
theorem byteOf_byteAV (b : UInt8) : byteOf' (Zn b) = b := by simp [byteOf', Zn]
theorem Y0 (b : List UInt8) : (b.map Zn).map byteOf' = b := by
 rw [List.map_map]; conv => rhs; rw [← List.map_id b]
 exact List.map_congr_left fun x _ => byteOf_byteAV x
theorem famAV_sz (e : Fml) : (XG e).sz = 3 := by simp [XG, AV.sz, AV.szs]
theorem byteAV_memOK (e : UInt8) : (Zn e).memOK = true := rfl
theorem ZF {α : Type} [Inhabited α] (f : α → AV) (l : List α) (i : Nat) (h : i < l.length) : nth (l.map f) i = f (l.getD i default) := by
 simp [nth, List.getD, List.getElem?_eq_getElem h]
def iv : AV → Nat
 | .int _ n => n.toNat
 | _ => 0
theorem iv_int (k : IntKind) (n : Int) : iv (.int k n) = n.toNat := rfl
theorem k2 (n : Nat) : n + 1 + 1 = n + 2 := rfl
theorem k3 (n : Nat) : n + 2 + 1 = n + 3 := rfl
theorem k4 (n : Nat) : n + 3 + 1 = n + 4 := rfl
theorem k5 (n : Nat) : n + 4 + 1 = n + 5 := rfl
theorem k6 (n : Nat) : n + 5 + 1 = n + 6 := rfl
theorem k7 (n : Nat) : n + 6 + 1 = n + 7 := rfl
theorem k8 (n : Nat) : n + 7 + 1 = n + 8 := rfl
theorem k9 (n : Nat) : n + 8 + 1 = n + 9 := rfl
theorem k10 (n : Nat) : n + 9 + 1 = n + 10 := rfl
theorem k11 (n : Nat) : n + 10 + 1 = n + 11 := rfl
theorem k12 (n : Nat) : n + 11 + 1 = n + 12 := rfl
theorem k13 (n : Nat) : n + 12 + 1 = n + 13 := rfl
theorem k14 (n : Nat) : n + 13 + 1 = n + 14 := rfl
theorem k15 (n : Nat) : n + 14 + 1 = n + 15 := rfl
theorem k16 (n : Nat) : n + 15 + 1 = n + 16 := rfl
theorem k17 (n : Nat) : n + 16 + 1 = n + 17 := rfl
theorem k18 (n : Nat) : n + 17 + 1 = n + 18 := rfl
theorem k19 (n : Nat) : n + 18 + 1 = n + 19 := rfl
theorem k20 (n : Nat) : n + 19 + 1 = n + 20 := rfl
theorem k21 (n : Nat) : n + 20 + 1 = n + 21 := rfl
theorem k22 (n : Nat) : n + 21 + 1 = n + 22 := rfl
theorem k23 (n : Nat) : n + 22 + 1 = n + 23 := rfl
theorem k24 (n : Nat) : n + 23 + 1 = n + 24 := rfl
theorem kne0 (n k : Nat) : (n = n + (k + 1)) = False := by simp
theorem kne1 (n k : Nat) : (n + (k + 1) = n) = False := by simp
theorem put2 (H : Heap) (k : Nat) (a b : Option AObj) : (H.put k a).put k b = H.put k b := by funext j; simp only [Heap.put]; split <;> rfl
theorem nlt1 (n k : Nat) : (n + k < n) = False := by simp
theorem wBS_own (P : Program) (z : TypeId → AV) (H : Heap) (n : Nat) (T : Nat → AV) (t : TypeId) (len : Nat) (ps : List (Nat × Operand)) : wBS P z H n T t len ps.toArray (.bool true) = wBSl P H n t len (ps.map (·.1)) (ps.map fun p => evO T p.2) := rfl
theorem wBS_ro (P : Program) (z : TypeId → AV) (H : Heap) (n : Nat) (T : Nat → AV) (t : TypeId) (len : Nat) (ps : Array (Nat × Operand)) : wBS P z H n T t len ps .junk = (opQ P z H true T (.buildSlice t len ps)).map fun r => (r.1, r.2, H, n) := rfl
attribute [go_sem] wBS_own wBS_ro Option.map_some Option.map_none
attribute [go_sem] k2 k3 k4 k5 k6 k7 k8 k9 k10 k11 k12 k13 k14 k15 k16 k17 k18 k19 k20 k21 k22 k23 k24 kne0 kne1 List.nil_append List.cons_append List.take_succ_cons List.take_zero List.set_cons_zero List.set_cons_succ Nat.zero_add Nat.add_zero Nat.zero_mul Nat.one_mul Nat.mul_one ne_eq not_false_eq_true AV.memOK.eq_5 put2 nlt1
attribute [go_sem] L9 bys XG Zt entsAV Zn iv_int
theorem w64 {n : Int} (h : -9223372036854775808 ≤ n) (h' : n < 9223372036854775808) : IntKind.i64.wrap n = n := by
 rw [IntKind.wrap_i64]; omega
theorem ZZ {α : Type} [Inhabited α] (l : List α) (i : Nat) (h : i < l.length) : l.drop i = l.getD i default :: l.drop (i + 1) := by
 rw [List.drop_eq_getElem_cons h]; simp [List.getD, List.getElem?_eq_getElem h]
theorem Frz.eq {H : Heap} {n : Nat} {a b : AV} (h : a = b) (hk : a.kl n) : Frz H n a b := h ▸ .kl hk
def bout (x lo hi : Int) : Bool := decide (x < lo) || decide (hi < x)
def XF (b : UInt8) : Bool := decide (97 ≤ (b.toNat : Int)) && decide ((b.toNat : Int) ≤ 122)
def WZ (b : UInt8) : Bool := !(bif (bif !XF b then (bif decide ((b.toNat : Int) < 48) then true else decide (57 < (b.toNat : Int))) else false) then ((b.toNat : Int) != 95) else false)
def Xq (s : List UInt8) : Bool := !(bout s.length 1 32) && XF (s.getD 0 0) && s.all WZ
def VH : List Fml → List UInt8 → Nat → Int
 | [], _, _ => -1
 | f :: l, name, i => if f.name = name then i else VH l name (i + 1)
def V6 (all : List Fml) (f : Fml) (i : Nat) : Bool := !(Xq f.name) || VH all f.name 0 != (i : Int) || bout f.max 1 16 || bout f.ttl 0 1099511627776
def WT (all : List Fml) : List Fml → Nat → Bool
 | [], _ => false
 | f :: l, i => V6 all f i || WT all l (i + 1)
def Z8 (s : List Fml) : Int := if bout s.length 1 8 then 28 else if WT s s 0 then 28 else 0
theorem w1 {i : Nat} (h : i < 4611686018427387904) : IntKind.i64.wrap ((i : Int) + 1) = ((i + 1 : Nat) : Int) := by
 rw [w64 (by omega) (by omega)]; omega
theorem Wn {x lo hi : Int} (h : bout x lo hi = false) : lo ≤ x ∧ x ≤ hi := by simp [bout] at h; omega
def Ent.fits (e : Ent) : Prop := e.row.length ≤ 140737488355328 ∧ e.qual.length ≤ 140737488355328 ∧ e.value.length ≤ 140737488355328
theorem ZJ (b : List UInt8) (n : Nat) : MK n (b.map Zn) := by
 rw [AV.kls_iff]; intro x hx
 obtain ⟨y, _, rfl⟩ := List.mem_map.1 hx
 trivial
theorem kl_bys (b : List UInt8) (n : Nat) : (bys b).kl n := ZJ b n
theorem Lr {c : Ctx} : ∀ (b : List UInt8) (ds : List Value), RelF c (b.map Zn) ds → ds = b.map fun x => .int .u8 x.toNat
 | [], ds, h => by simpa [RelF] using h
 | x :: b, ds, h => by
   simp only [List.map_cons, RelF] at h
   obtain ⟨c1, c2, e, h1, h2⟩ := h
   simp only [Zn, Rel] at h1
   rw [e, h1, Lr b c2 h2]; rfl
theorem UH {P : Program} {c : Ctx} {H : Heap} {n : Nat} {w : World} (hs : Sim c H n w) {b : List UInt8} {v : Value} (h : Rel c (bys b) false [v]) : (Extern.Bytes.bytesOf v).run P w = .ok ⟨b.toArray⟩ w := by
 simp only [bys, Rel, List.cons.injEq, and_true] at h
 obtain ⟨a, cap, rfl, _, _, hx⟩ := h
 rcases hx with hx | ⟨bb, off, arr, ds, rfl, hb, hr, ha⟩
 ·have hb : b = [] := by simpa using hx
  subst hb
  cases a <;> rfl
 ·obtain ⟨ty, fr, hw⟩ := hs.ro bb arr hb
  have hds := Lr b ds hr
  subst hds
  have := Lib.run_loadBytesX (P := P) w (b.map fun x => (x.toNat : Int)) ⟨bb, off, none⟩ .empty (fun j x hj => by
    rw [Addr.add_plain]; simp only [World.cell?, hw]
    have := ha j (.int .u8 x) (by simp at hj ⊢; obtain ⟨y, hy, e⟩ := hj; exact ⟨y, hy, e⟩)
    simpa using this)
  simp only [List.length_map] at this ⊢
  show (Extern.Bytes.loadBytes ⟨bb, off, none⟩ b.length .empty).run P w = _
  rw [this]
  congr 1
  apply ByteArray.ext
  show (#[] : Array UInt8) ++ (Lib.bytesOf (b.map fun x => (x.toNat : Int))).toArray = b.toArray
  simp [Lib.bytesOf, List.map_map, Function.comp_def]
theorem J8 {P : Program} {f : FuncId} {fn : Func} {H : Heap} {n : Nat} {k : AV → Heap → Nat → Prop} (hf : P.funcs[f]? = some fn) (hb : fn.body = none) (hn : (fn.name == "runtime.NumGoroutine") = false)
   (h1 : (Extern.findNext fn).isNone = true) (h2 : Extern.find fn = some Extern.BytealgCompare.compare) (a b : List UInt8) (hk : k (.int .i64 (Lib.compareBytes a b)) H n) : ExtC P f [bys a, bys b] H n k := fun c w vs hs hr => by
 simp only [RelT] at hr
 obtain ⟨v1, _, rfl, hr1, v2, _, rfl, hr2, rfl⟩ := hr
 have h1' : Extern.findNext fn = none := by simpa using h1
 refine ⟨_, .int .i64 (Lib.compareBytes a b), c, H, n, w, ?_, .refl hs, by simp [Rel], hk⟩
 have hc : (Extern.BytealgCompare.compare #[v1, v2]).run P w = .ok (.int .i64 (Lib.compareBytes a b)) w := by
   change Sem.run P (do pure (goInt (Extern.BytealgCompare.cmp (← Extern.Bytes.bytesOf v1) (← Extern.Bytes.bytesOf v2)))) w = _
   simp only [Sem.run_bind, UH hs hr1, UH hs hr2, Result.andThen_ok, Sem.run_pure]
   rw [Lib.cmp_eq]
   rfl
 have hn' : ¬ fn.name = "runtime.NumGoroutine" := by simpa using hn
 simp [callFunc, hf, hn', hb, h1', h2, hc]
theorem Js (all l : List Fml) (f : Fml) (i : Nat) : WT all (f :: l) i = (V6 all f i || WT all l (i + 1)) := rfl
def intsAV (l : List Int) : AV := .sl 1 (l.map fun x => .int .i64 x)
attribute [go_sem] intsAV
structure YF where
 kind : Int
 fam : Int
 qual : List UInt8
 value : List UInt8
 deriving DecidableEq, Inhabited
structure OpE where
 kind : Int
 fam : Int
 qual : List UInt8
 ts : Int
 value : List UInt8
 delta : Int
 deriving DecidableEq, Inhabited
structure QryE where
 frm : List UInt8
 to : List UInt8
 fams : List Int
 pre : List UInt8
 time : Int
 n : Int
 rows : Int
 rev : Bool
 whr : List UInt8
 token : List UInt8
 deriving DecidableEq, Inhabited
structure CmdE where
 kind : Int
 client : Int
 serial : Int
 row : List UInt8
 conds : List YF
 ops : List OpE
 n : Int
 q : QryE
 deriving DecidableEq, Inhabited
structure CelE where
 fam : Int
 qual : List UInt8
 ts : Int
 value : List UInt8
 deriving DecidableEq, Inhabited
structure RowE where
 row : List UInt8
 cells : List CelE
 deriving DecidableEq, Inhabited
structure RepE where
 err : Int
 held : Bool
 value : Int
 rows : List RowE
 token : List UInt8
 done : Bool
 deriving DecidableEq, Inhabited
def Zr (l : List Int) : AV := .sl 1 (l.map fun n => .int .i64 n)
def Zu (c : YF) : AV := .agg [.int .i64 c.kind, .int .i64 c.fam, bys c.qual, bys c.value]
def opAV (o : OpE) : AV := .agg [.int .i64 o.kind, .int .i64 o.fam, bys o.qual, .int .i64 o.ts, bys o.value, .int .i64 o.delta]
def Zq (q : QryE) : AV := .agg [bys q.frm, bys q.to, Zr q.fams, bys q.pre, .int .i64 q.time, .int .i64 q.n, .int .i64 q.rows, .bool q.rev, .str q.whr, bys q.token]
def Zh (c : CmdE) : AV := .agg [.int .i64 c.kind, .int .i64 c.client, .int .i64 c.serial, bys c.row, .sl 4 (c.conds.map Zu), .sl 6 (c.ops.map opAV), .int .i64 c.n, Zq c.q]
def Z7 (c : CelE) : AV := .agg [.int .i64 c.fam, bys c.qual, .int .i64 c.ts, bys c.value]
def ZO (r : RowE) : AV := .agg [bys r.row, .sl 4 (r.cells.map Z7)]
def Zy (r : RepE) : AV := .agg [.int .i64 r.err, .bool r.held, .int .i64 r.value, .agg [.sl 2 (r.rows.map ZO), bys r.token, .bool r.done]]
theorem Qw (c : YF) : (Zu c).sz = 4 := by simp [Zu, AV.sz, AV.szs, bys]
theorem KV (c : OpE) : (opAV c).sz = 6 := by simp [opAV, AV.sz, AV.szs, bys]
theorem celAV_sz (c : CelE) : (Z7 c).sz = 4 := by simp [Z7, AV.sz, AV.szs, bys]
theorem rowAV_sz (c : RowE) : (ZO c).sz = 2 := by simp [ZO, AV.sz, AV.szs, bys]
theorem Yj (c : QryE) : (Zq c).sz = 10 := by simp [Zq, AV.sz, AV.szs, bys, Zr]
theorem Yy (c : CmdE) : (Zh c).sz = 17 := by simp [Zh, Yj, AV.sz, AV.szs, bys]
theorem Xv (c : RepE) : (Zy c).sz = 6 := by simp [Zy, AV.sz, AV.szs, bys]
def Zm (v : Nat) : List UInt8 := if h : v < 128 then [UInt8.ofNat v] else UInt8.ofNat (v % 128 + 128) :: Zm (v / 128)
termination_by v
decreasing_by omega
def u64 (n : Int) : Nat := (n % 18446744073709551616).toNat
def Zp (b : List UInt8) : List UInt8 := Zm b.length ++ b
def ZW (n : Int) : UInt8 := UInt8.ofNat (n % 256).toNat
def Wx (b : Bool) : List UInt8 := [if b then 1 else 0]
def XO (n : Int) : List UInt8 := [56, 48, 40, 32, 24, 16, 8, 0].map fun i => ZW (n / 2 ^ (i : Nat))
def YB (x : YF) : List UInt8 := ZW x.kind :: ZW x.fam :: (Zp x.qual ++ Zp x.value)
def opB (x : OpE) : List UInt8 := ZW x.kind :: ZW x.fam :: (Zp x.qual ++ Zm (u64 x.ts) ++ Zp x.value ++ XO x.delta)
def qryB (q : QryE) : List UInt8 :=
 Zp q.frm ++ Zp q.to ++ Zm q.fams.length ++ (q.fams.flatMap fun f => Zm (u64 f)) ++ Zp q.pre ++ Zm (u64 q.time) ++ Zm (u64 q.n) ++ Zm (u64 q.rows) ++ Wx q.rev ++ Zp q.whr ++ Zp q.token
def cmdB (c : CmdE) : List UInt8 :=
 ZW c.kind :: ((if 3 ≤ c.kind then Zm (u64 c.client) ++ Zm (u64 c.serial) else []) ++
   (if c.kind = 4 then Zp c.row ++ Zm c.conds.length ++ c.conds.flatMap YB ++ Zm c.ops.length ++ c.ops.flatMap opB
    else if c.kind = 5 ∨ c.kind = 6 then Zm (u64 c.n) else if c.kind = 7 then qryB c.q else []))
def celB (c : CelE) : List UInt8 := ZW c.fam :: (Zp c.qual ++ Zm (u64 c.ts) ++ Zp c.value)
def rowB (r : RowE) : List UInt8 := Zp r.row ++ Zm r.cells.length ++ r.cells.flatMap celB
def repB (r : RepE) : List UInt8 := Zm (u64 r.err) ++ Wx r.held ++ Zm (u64 r.value) ++ Zm r.rows.length ++ r.rows.flatMap rowB ++ Zp r.token ++ Wx r.done
def XB (nf : Nat) (c : YF) : Bool := !bout c.kind 1 6 && !bout c.fam 0 ((nf : Int) - 1) && decide ((c.qual.length : Int) ≤ 256) && decide ((c.value.length : Int) ≤ 4096) && (!(c.kind == 1 || c.kind == 2) || (c.value.length : Int) == 0)
def opOK (nf : Nat) (o : OpE) : Bool :=
 !(bout o.kind 1 5 || bout o.fam 0 ((nf : Int) - 1) || decide (256 < (o.qual.length : Int)) || bout o.ts 0 1099511627776 || decide (4096 < (o.value.length : Int))) &&
 !((o.kind == 4 && decide (0 < (o.qual.length : Int))) || (o.kind == 5 && o.ts != 0) || (o.kind != 1 && decide (0 < (o.value.length : Int)))) && (o.kind == 5 || o.delta == 0)
end Go.Rt
namespace Go.Sx
open Go Go.ChangeShapes
def c0 (W : World) : Ctx := ⟨fun _ _ => none, fun b => match W.heap[b]? with | some (.cells a _ _) => some a | _ => none⟩
theorem sim0 (W : World) : Sim (c0 W) (fun _ => none) 0 W where
 ro := fun b a h => by
   simp only [c0] at h
   split at h
   ·rename_i a' ty fr hb; simp only [Option.some.injEq] at h; subst h; exact ⟨ty, fr, hb⟩
   ·simp at h
 own := fun k o h => by simp at h
 sep := fun k o b h => by simp at h
 inj := fun k k' o o' b h => by simp at h
 fresh := fun k _ => ⟨rfl, fun v => rfl⟩
 vers := fun k o v h => by simp at h
structure Kj {H : Type} (B : DataW H → Nat) : Prop where
 lit : ∀ l, 1 ≤ B (.lit l)
 str : ∀ s : List UInt8, s.length ≤ B (.lit (.string s))
 nil : 1 ≤ B .nil
 slice : ∀ es sp, (es.map B).sum + 1 ≤ B (.slice es sp)
 agg : ∀ ps, (ps.map B).sum + 1 ≤ B (.agg ps)
section
variable {H : Type} (enc : TypeId × Value → H) (P : Program) (W : World) (B : DataW H → Nat)
def Reads (t : TypeId) (S : AV → Nat → Prop) : Prop :=
 ∀ fuel cs x, DataW.trod enc P W 0 (fun _ => true) true fuel t cs = some x → ∃ a m, S a m ∧ Rel (c0 W) a true cs ∧ m ≤ B x.1
variable {enc P W B}
theorem JX (hB : Kj B) {t : TypeId} {k : IntKind} (hu : P.underlying t = some (.int k)) : Reads enc P W B t fun a m => ∃ n, a = .int k n ∧ (Lit.int k n).wf = true ∧ m = 1 := fun fuel cs x h => by
 obtain ⟨n, rfl, rfl, hw⟩ := DataW.trod_int hu h
 exact ⟨_, 1, ⟨n, rfl, hw, rfl⟩, by simp [Rel], hB.lit _⟩
theorem reads_bool (hB : Kj B) {t : TypeId} (hu : P.underlying t = some .bool) : Reads enc P W B t fun a m => ∃ b, a = .bool b ∧ m = 1 := fun fuel cs x h => by
 obtain ⟨b, rfl, rfl⟩ := DataW.trod_bool hu h
 exact ⟨_, 1, ⟨b, rfl, rfl⟩, by simp [Rel], hB.lit _⟩
theorem reads_str (hB : Kj B) {t : TypeId} (hu : P.underlying t = some .string) : Reads enc P W B t fun a m => ∃ s, a = .str s ∧ m = s.length := fun fuel cs x h => by
 obtain ⟨s, rfl, rfl, _⟩ := DataW.trod_string hu h
 exact ⟨_, _, ⟨s.data.toList, rfl, rfl⟩, by simp [Rel], hB.str _⟩
def sSl (esz : Nat) (S : AV → Nat → Prop) (a : AV) (m : Nat) : Prop := ∃ xs : List (AV × Nat), a = .sl esz (xs.map (·.1)) ∧ (∀ y ∈ xs, S y.1 y.2) ∧ m = (xs.map (·.2)).sum + 1
theorem JV {c : Ctx} (f : Nat → AV) (g : Nat → List Value) : ∀ (l : List Nat), (∀ i ∈ l, Rel c (f i) true (g i)) → RelF c (l.map f) (l.flatMap g)
 | [], _ => by simp [RelF]
 | i :: l, h => by
   simp only [List.map_cons, List.flatMap_cons, RelF]
   exact ⟨_, _, rfl, h i (by simp), JV f g l fun j hj => h j (by simp [hj])⟩
theorem at_flat {arr : Array Value} {off esz : Nat} (g : Nat → List Value) : ∀ (n s : Nat), (∀ i, s ≤ i → i < s + n → (g i).length = esz ∧ At arr (off + i * esz) (g i)) → At arr (off + s * esz) ((List.range' s n).flatMap g)
 | 0, s, _ => by simp; exact At.nil
 | n + 1, s, h => by
   rw [List.range'_succ, List.flatMap_cons]
   obtain ⟨h1, h2⟩ := h s (Nat.le_refl _) (by omega)
   refine At.append.2 ⟨h2, ?_⟩
   rw [h1]
   have := at_flat g n (s + 1) fun i hi hi' => h i (by omega) (by omega)
   rw [Nat.add_mul, Nat.one_mul, ← Nat.add_assoc] at this
   exact this
theorem sum_le {α : Type} (f g : α → Nat) : ∀ (l : List α), (∀ x ∈ l, f x ≤ g x) → (l.map f).sum ≤ (l.map g).sum
 | [], _ => by simp
 | x :: l, h => by
   simp only [List.map_cons, List.sum_cons]
   have := sum_le f g l fun y hy => h y (by simp [hy])
   have := h x (by simp)
   omega
theorem XL (hB : Kj B) {t e : TypeId} {esz : Nat} {S : AV → Nat → Prop} (hu : P.underlying t = some (.slice e)) (hsz : P.cellsOf e = esz) (hpos : 0 < esz) (hS : Reads enc P W B e S) (hSz : ∀ a m, S a m → a.sz = esz) :
   Reads enc P W B t (sSl esz S) := fun fuel cs x h => by
 subst hsz
 rcases DataW.trod_slice hu h with ⟨rfl, rfl⟩ | ⟨a, len, cap, elems, rest, n, rfl, rfl, rfl, _, hl, hm, hlen, hel, _, _⟩
 ·refine ⟨.sl (P.cellsOf e) [], 1, ⟨[], rfl, by simp, rfl⟩, ?_, hB.nil⟩
  simp only [Rel]
  exact ⟨none, 0, rfl, Nat.le_refl _, by simp, .inl trivial⟩
 ·have each : ∀ i, i < len → ∃ (y : AV × Nat) (ci : List Value), W.cells? 0 (a.add (i * P.cellsOf e)) (P.cellsOf e) = some ci ∧ S y.1 y.2 ∧ Rel (c0 W) y.1 true ci ∧ ∀ z, elems[i]? = some z → y.2 ≤ B z.1 := fun i hi => by
    have hz : elems[i]? = some elems[i] := List.getElem?_eq_getElem (by omega)
    have h1 := hel i hi
    rw [hz] at h1
    simp only [Option.bind_eq_some_iff] at h1
    obtain ⟨ci, h1, h2⟩ := h1
    obtain ⟨aa, m, h3, h4, h5⟩ := hS _ _ _ h2
    exact ⟨(aa, m), ci, h1, h3, h4, fun z hz' => by rw [hz] at hz'; cases hz'; exact h5⟩
  have each' : ∀ i, ∃ (y : AV × Nat) (ci : List Value), i < len → W.cells? 0 (a.add (i * P.cellsOf e)) (P.cellsOf e) = some ci ∧ S y.1 y.2 ∧ Rel (c0 W) y.1 true ci ∧ ∀ z, elems[i]? = some z → y.2 ≤ B z.1 := fun i => by
    by_cases hi : i < len
    ·obtain ⟨y, ci, h⟩ := each i hi; exact ⟨y, ci, fun _ => h⟩
    ·exact ⟨(.junk, 0), [], fun h => absurd h hi⟩
  let f : Nat → AV × Nat := fun i => Classical.choose (each' i)
  let g : Nat → List Value := fun i => Classical.choose (Classical.choose_spec (each' i))
  have hfg : ∀ i, i < len → W.cells? 0 (a.add (i * P.cellsOf e)) (P.cellsOf e) = some (g i) ∧ S (f i).1 (f i).2 ∧ Rel (c0 W) (f i).1 true (g i) ∧ ∀ z, elems[i]? = some z → (f i).2 ≤ B z.1 := fun i => Classical.choose_spec (Classical.choose_spec (each' i))
  clear_value f g
  refine ⟨.sl (P.cellsOf e) (((List.range' 0 len).map f).map (·.1)), _, ⟨(List.range' 0 len).map f, rfl, ?_, rfl⟩, ?_, ?_⟩
  ·intro y hy
   obtain ⟨i, hi, rfl⟩ := List.mem_map.1 hy
   exact (hfg i (by simpa using hi)).2.1
  ·simp only [Rel]
   refine ⟨some a, cap, by simp, by simpa using hl, ?_, ?_⟩
   ·intro x hx
    simp only [List.map_map, List.mem_map, List.mem_range'_1] at hx
    obtain ⟨i, hi, rfl⟩ := hx
    exact hSz _ _ (hfg i (by omega)).2.1
   ·by_cases h0 : len = 0
    ·left; subst h0; rfl
    ·right
     obtain ⟨b, off, spot⟩ := a
     have hc0 := (World.cells?_some (hfg 0 (by omega)).1).2.2 0 hpos
     have hl0 := (World.cells?_some (hfg 0 (by omega)).1).2.1
     have hv : ∃ v, (g 0)[0]? = some v := ⟨(g 0)[0], List.getElem?_eq_getElem (by omega)⟩
     obtain ⟨v, hv⟩ := hv
     rw [hv] at hc0
     have hspot : spot = none := by simpa [Addr.add] using World.cell?_spot hc0
     subst hspot
     have harr : ∃ arr ty fr, W.heap[b]? = some (.cells arr ty fr) := by
       simp only [Nat.zero_mul, Addr.add, if_true] at hc0
       unfold World.cell? at hc0
       cases hb : W.heap[b]? with
       | none => simp [hb] at hc0
       | some o => cases o <;> simp [hb] at hc0 ⊢
     obtain ⟨arr, ty, fr, hb⟩ := harr
     refine ⟨b, off, arr, (List.range' 0 len).flatMap g, rfl, by simp [c0, hb], ?_, ?_⟩
     ·rw [List.map_map]
      exact JV _ g _ fun i hi => (hfg i (by simpa using hi)).2.2.1
     ·have := at_flat (arr := arr) (off := off) (esz := P.cellsOf e) g len 0 fun i _ hi => by
        obtain ⟨_, h2, h3⟩ := World.cells?_some (hfg i (by omega)).1
        refine ⟨h2, fun j v hj => ?_⟩
        have hjl : j < P.cellsOf e := by
          rcases Nat.lt_or_ge j (g i).length with h | h
          ·omega
          ·rw [List.getElem?_eq_none h] at hj; simp at hj
        have h4 := h3 j hjl
        rw [hj, Addr.add_plain, Addr.add_plain] at h4
        simp only [World.cell?, hb] at h4
        simpa using h4
      simpa using this
  ·have h1 : (((List.range' 0 len).map f).map (·.2)).sum ≤ ((elems.map (·.1)).map B).sum := by
     have e1 : elems = (List.range' 0 len).map fun i => (elems[i]?).getD (.nil, []) := by
       apply List.ext_getElem?
       intro i
       by_cases hi : i < len
       ·simp [List.getElem?_map, List.getElem?_range' hi, List.getElem?_eq_getElem (show i < elems.length by omega)]
       ·rw [List.getElem?_eq_none (by omega), List.getElem?_eq_none (by simp; omega)]
     have e2 : ((elems.map (·.1)).map B) = (List.range' 0 len).map fun i => B ((elems[i]?).getD (.nil, [])).1 := by
       conv => lhs; rw [e1]
       simp [List.map_map, Function.comp_def]
     rw [e2, List.map_map]
     refine sum_le _ _ _ fun i hi => ?_
     have hi' : i < len := by simpa using hi
     exact (hfg i hi').2.2.2 _ (by rw [List.getElem?_eq_getElem (show i < elems.length by omega)]; rfl)
   have h2 := hB.slice (elems.map (·.1)) (rest.map (·.1))
   show _ ≤ B (.slice _ _)
   omega
def SAll : List (AV → Nat → Prop) → List (AV × Nat) → Prop
 | [], [] => True
 | S :: Ss, x :: xs => S x.1 x.2 ∧ SAll Ss xs
 | _, _ => False
def sAgg (Ss : List (AV → Nat → Prop)) (a : AV) (m : Nat) : Prop := ∃ xs : List (AV × Nat), a = .agg (xs.map (·.1)) ∧ SAll Ss xs ∧ m = (xs.map (·.2)).sum + 1
variable (enc P W B) in
def QN : List Field → List (AV → Nat → Prop) → Nat → Nat → Prop
 | [], [], off, total => off = total
 | f :: fs, S :: Ss, off, total => f.offset = off ∧ Reads enc P W B f.type S ∧ QN fs Ss (off + P.cellsOf f.type) total
 | _, _, _, _ => False
theorem LZ {n : Nat} {cs : List Value} : ∀ (fs : List Field) (Ss : List (AV → Nat → Prop)) (off : Nat) (ys : List (DataW H × List MemPlace)), QN enc P W B fs Ss off cs.length → ys.length = fs.length →
   (∀ (i : Nat) (f : Field), fs[i]? = some f → DataW.trod enc P W 0 (fun _ => true) true n f.type ((cs.drop f.offset).take (P.cellsOf f.type)) = ys[i]?) →
   ∃ xs, SAll Ss xs ∧ RelF (c0 W) (xs.map (·.1)) (cs.drop off) ∧ (xs.map (·.2)).sum ≤ ((ys.map (·.1)).map B).sum
 | [], [], off, ys, hf, hl, _ => by
   simp only [QN] at hf
   refine ⟨[], trivial, ?_, by simp⟩
   simp only [List.map_nil, RelF]
   exact List.drop_eq_nil_of_le (by omega)
 | f :: fs, S :: Ss, off, ys, hf, hl, hy => by
   simp only [QN] at hf
   obtain ⟨ho, hr, hf⟩ := hf
   cases ys with
   | nil => simp at hl
   | cons y ys =>
     have h0 := hy 0 f rfl
     simp only [List.getElem?_cons_zero] at h0
     obtain ⟨a, m, h1, h2, h3⟩ := hr _ _ _ h0
     obtain ⟨xs, h4, h5, h6⟩ := LZ fs Ss (off + P.cellsOf f.type) ys hf (by simpa using hl) fun i f' hi => by
       have := hy (i + 1) f' (by simpa using hi)
       simpa using this
     refine ⟨(a, m) :: xs, ⟨h1, h4⟩, ?_, by simp only [List.map_cons, List.sum_cons]; omega⟩
     simp only [List.map_cons, RelF]
     refine ⟨(cs.drop off).take (P.cellsOf f.type), cs.drop (off + P.cellsOf f.type), ?_, by rw [← ho]; exact h2, h5⟩
     rw [← List.drop_drop, List.take_append_drop]
 | [], _ :: _, _, _, hf, _, _ => by simp [QN] at hf
 | _ :: _, [], _, _, hf, _, _ => by simp [QN] at hf
theorem YG (hB : Kj B) {t : TypeId} {fs : Array Field} {Ss : List (AV → Nat → Prop)} (hu : P.underlying t = some (.struct fs)) (hf : QN enc P W B fs.toList Ss 0 (P.cellsOf t)) : Reads enc P W B t (sAgg Ss) := fun fuel cs x h => by
 obtain ⟨ys, n, rfl, rfl, hl, hyl, hy⟩ := DataW.trod_struct hu h
 rw [← hl] at hf
 obtain ⟨xs, h1, h2, h3⟩ := LZ fs.toList Ss 0 ys hf (by simpa using hyl) fun i f hi => hy i f (by simpa using hi)
 refine ⟨.agg (xs.map (·.1)), _, ⟨xs, rfl, h1, rfl⟩, by simp only [Rel]; simpa using h2, ?_⟩
 have := hB.agg (ys.map (·.1))
 show _ ≤ B (.agg _)
 omega
theorem Qu {t : TypeId} {S : AV → Nat → Prop} (hr : Reads enc P W B t S) {v : Value} {d : DataW H} {ps : List MemPlace} (h : DataW.Trod enc P W 0 (fun _ => true) true t v d ps) :
   ∃ a m, S a m ∧ Rel (c0 W) a true v.cells.toList ∧ m ≤ B d := by
 obtain ⟨fuel, h⟩ := h
 exact hr _ _ _ h
end
theorem Jf {c : Ctx} {a : AV} {v : Value} (h : Rel c a true v.cells.toList) (ha : a.isAgg = true → ∃ cs, v = .agg cs) (hn : a.isAgg = false → v.cells = #[v]) : Rel c a false [v] := by
 cases hag : a.isAgg with
 | true =>
   obtain ⟨cs, rfl⟩ := ha hag
   cases a <;> simp [AV.isAgg] at hag
   simp only [Rel] at h ⊢
   exact ⟨cs, rfl, h⟩
 | false =>
   rw [hn hag] at h
   cases a <;> simp only [Rel] at h ⊢ <;> first | exact h | (simp [AV.isAgg] at hag; done) | skip
   ·exact ⟨h.1, fun h => by simp at h⟩
   ·obtain ⟨x, h1, _⟩ := h; exact ⟨x, h1, fun h => by simp at h⟩
end Go.Sx
namespace Go.Sx
open Go
theorem Us {α : Type} {esz : Nat} {S : AV → Nat → Prop} {f : α → AV} {q : α → Nat} (h : ∀ a m, S a m → ∃ x, a = f x ∧ q x ≤ m ∧ 1 ≤ m) {a : AV} {m : Nat} (hs : sSl esz S a m) :
   ∃ l : List α, a = .sl esz (l.map f) ∧ l.length + 1 ≤ m ∧ ∀ x ∈ l, q x ≤ m := by
 obtain ⟨xs, rfl, hx, rfl⟩ := hs
 suffices hh : ∃ l : List α, xs.map (·.1) = l.map f ∧ l.length ≤ (xs.map (·.2)).sum ∧ ∀ x ∈ l, q x ≤ (xs.map (·.2)).sum by
   obtain ⟨l, h1, h2, h3⟩ := hh
   exact ⟨l, by rw [h1], by omega, fun x hx => by have := h3 x hx; omega⟩
 induction xs with
 | nil => exact ⟨[], rfl, by simp, by simp⟩
 | cons y ys ih =>
   obtain ⟨l, h1, h2, h3⟩ := ih fun z hz => hx z (by simp [hz])
   obtain ⟨x, h4, h5, h6⟩ := h y.1 y.2 (hx y (by simp))
   refine ⟨x :: l, by simp [h1, h4], by simp; omega, fun z hz => ?_⟩
   simp only [List.map_cons, List.sum_cons]
   rcases List.mem_cons.1 hz with rfl | hz
   ·omega
   ·have := h3 z hz; omega
theorem ZC {S : AV → Nat → Prop} {Ss : List (AV → Nat → Prop)} {xs : List (AV × Nat)} (h : SAll (S :: Ss) xs) : ∃ x ys, xs = x :: ys ∧ S x.1 x.2 ∧ SAll Ss ys := by
 cases xs with
 | nil => exact h.elim
 | cons x ys => exact ⟨x, ys, rfl, h.1, h.2⟩
theorem Wh {xs : List (AV × Nat)} (h : SAll [] xs) : xs = [] := by
 cases xs with
 | nil => rfl
 | cons x ys => exact h.elim
theorem ZK {H : Type} {enc : TypeId × Value → H} {P : Program} {W : World} {B : DataW H → Nat} {f : Field} {fs : List Field} {S : AV → Nat → Prop} {Ss : List (AV → Nat → Prop)} {off off' total : Nat}
 (h1 : f.offset = off) (h2 : Reads enc P W B f.type S) (h3 : off + P.cellsOf f.type = off') (h4 : QN enc P W B fs Ss off' total) : QN enc P W B (f :: fs) (S :: Ss) off total := ⟨h1, h2, h3 ▸ h4⟩
theorem WR {H : Type} {enc : TypeId × Value → H} {P : Program} {W : World} {B : DataW H → Nat} {off total : Nat} (h : off = total) : QN enc P W B [] [] off total := h
end Go.Sx
namespace Go.Proofs.YtifnhpmeoogedaaGreatDoor
open Go Go.Sx Go.Rt Go.Proofs Go.ChangeShapes Go.WideShapes Go.ChangeAt Go.RowKit Tryz
theorem own9 : ownKnob prog.godebug = none := by kernel_rfl
theorem laid9 : laidOutB prog = true := by kernel_rfl
theorem Qh {H : Type} : ∀ (l : List (DataW H)), Rows.uptoBulkAll l = (l.map Rows.uptoBulk).sum
 | [] => by simp [Rows.uptoBulkAll]
 | d :: l => by simp only [Rows.uptoBulkAll, List.map_cons, List.sum_cons]; rw [Qh l]
theorem Y5 {H : Type} : Kj (Rows.uptoBulk (H := H)) where
 lit := fun l => by cases l <;> simp [Rows.uptoBulk]
 str := fun s => by simp [Rows.uptoBulk]
 nil := by simp [Rows.uptoBulk]
 slice := fun es sp => by simp only [Rows.uptoBulk]; rw [Qh es]; omega
 agg := fun ps => by simp only [Rows.uptoBulk]; rw [Qh ps]; omega
section
variable {H : Type} {enc : TypeId × Value → H} {W : World}
def S64 (a : AV) (m : Nat) : Prop := ∃ n, a = .int .i64 n ∧ (Lit.int .i64 n).wf = true ∧ m = 1
def SU8 (a : AV) (m : Nat) : Prop := ∃ n, a = .int .u8 n ∧ (Lit.int .u8 n).wf = true ∧ m = 1
def SStr (a : AV) (m : Nat) : Prop := ∃ s, a = .str s ∧ m = s.length
def SBys := sSl 1 SU8
def SFam := sAgg [SStr, S64, S64]
def SFams := sSl 3 SFam
def SSch := sAgg [SFams]
def SBool (a : AV) (m : Nat) : Prop := ∃ b, a = .bool b ∧ m = 1
def SInts := sSl 1 S64
theorem s64_sz (a : AV) (m : Nat) (h : S64 a m) : a.sz = 1 := by obtain ⟨n, rfl, _⟩ := h; rfl
theorem su8_sz (a : AV) (m : Nat) (h : SU8 a m) : a.sz = 1 := by obtain ⟨n, rfl, _⟩ := h; rfl
theorem XE {a : AV} {m : Nat} (h : SBys a m) : ∃ b : List UInt8, a = bys b ∧ b.length + 1 ≤ m := by
 obtain ⟨l, h1, h2, _⟩ := Us (f := Zn) (q := fun _ => 0) (fun a m ⟨n, h1, h2, h3⟩ => ⟨UInt8.ofNat n.toNat, by
   have hw : 0 ≤ n ∧ n ≤ 255 := by simpa [Lit.wf, IntKind.min, IntKind.max, IntKind.signed, IntKind.bits] using h2
   rw [h1]; simp only [Zn]
   have : (UInt8.ofNat n.toNat).toNat = n.toNat := by simp; omega
   rw [this]; congr 1; omega, Nat.zero_le _, by omega⟩) h
 exact ⟨l, h1, h2⟩
theorem sFam_av {a : AV} {m : Nat} (h : SFam a m) : ∃ e : Fml, a = XG e ∧ 1 ≤ m := by
 obtain ⟨xs, rfl, hx, rfl⟩ := h
 obtain ⟨x0, xs, rfl, h0, hx⟩ := ZC hx
 obtain ⟨x1, xs, rfl, h1, hx⟩ := ZC hx
 obtain ⟨x2, xs, rfl, h2, hx⟩ := ZC hx
 obtain rfl := Wh hx
 ·obtain ⟨b0, e0, _⟩ := h0
  obtain ⟨n1, e1, _, _⟩ := h1
  obtain ⟨n2, e2, _, _⟩ := h2
  exact ⟨⟨b0, n1, n2⟩, by simp [XG, e0, e1, e2], by omega⟩
theorem sSch_av {a : AV} {m : Nat} (h : SSch a m) : ∃ s : List Fml, a = Zt s ∧ s.length ≤ m := by
 obtain ⟨xs, rfl, hx, rfl⟩ := h
 obtain ⟨x0, xs, rfl, h0, hx⟩ := ZC hx
 obtain rfl := Wh hx
 ·obtain ⟨l, h1, h2, _⟩ := Us (f := XG) (q := fun _ => 0) (fun a m h => by obtain ⟨e, h1, h2⟩ := sFam_av h; exact ⟨e, h1, Nat.zero_le _, h2⟩) h0
  refine ⟨l, by simp [Zt, h1], ?_⟩
  simp only [List.map_cons, List.map_nil, List.sum_cons, List.sum_nil]
  omega
theorem sInts_av {a : AV} {m : Nat} (h : SInts a m) : ∃ l : List Int, a = Zr l := by
 obtain ⟨l, h1, _⟩ := Us (f := fun x => AV.int .i64 x) (q := fun _ => 0) (fun a m ⟨n, h1, h2, h3⟩ => ⟨n, h1, Nat.zero_le _, by omega⟩) h
 exact ⟨l, h1⟩
def SCond := sAgg [S64, S64, SBys, SBys]
theorem sCond_av {a : AV} {m : Nat} (h : SCond a m) : ∃ x : YF, a = Zu x ∧ 1 ≤ m := by
 obtain ⟨xs, rfl, hx, rfl⟩ := h
 obtain ⟨x0, xs, rfl, h0, hx⟩ := ZC hx
 obtain ⟨x1, xs, rfl, h1, hx⟩ := ZC hx
 obtain ⟨x2, xs, rfl, h2, hx⟩ := ZC hx
 obtain ⟨x3, xs, rfl, h3, hx⟩ := ZC hx
 obtain rfl := Wh hx
 obtain ⟨n0, e0, _, _⟩ := h0
 obtain ⟨n1, e1, _, _⟩ := h1
 obtain ⟨n2, e2, _⟩ := XE h2
 obtain ⟨n3, e3, _⟩ := XE h3
 exact ⟨⟨n0, n1, n2, n3⟩, by simp [Zu, e0, e1, e2, e3], by omega⟩
def OFine (o : OpE) : Prop := -9223372036854775808 ≤ o.delta ∧ o.delta < 9223372036854775808
def SOp := sAgg [S64, S64, SBys, S64, SBys, S64]
theorem sOp_av {a : AV} {m : Nat} (h : SOp a m) : ∃ x : OpE, a = opAV x ∧ 1 ≤ m ∧ OFine x := by
 obtain ⟨xs, rfl, hx, rfl⟩ := h
 obtain ⟨x0, xs, rfl, h0, hx⟩ := ZC hx
 obtain ⟨x1, xs, rfl, h1, hx⟩ := ZC hx
 obtain ⟨x2, xs, rfl, h2, hx⟩ := ZC hx
 obtain ⟨x3, xs, rfl, h3, hx⟩ := ZC hx
 obtain ⟨x4, xs, rfl, h4, hx⟩ := ZC hx
 obtain ⟨x5, xs, rfl, h5, hx⟩ := ZC hx
 obtain rfl := Wh hx
 obtain ⟨n0, e0, _, _⟩ := h0
 obtain ⟨n1, e1, _, _⟩ := h1
 obtain ⟨n2, e2, _⟩ := XE h2
 obtain ⟨n3, e3, _, _⟩ := h3
 obtain ⟨n4, e4, _⟩ := XE h4
 obtain ⟨n5, e5, hw, _⟩ := h5
 exact ⟨⟨n0, n1, n2, n3, n4, n5⟩, by simp [opAV, e0, e1, e2, e3, e4, e5], by omega, by have hw : -9223372036854775808 ≤ n5 ∧ n5 ≤ 9223372036854775807 := (by simpa [Lit.wf, IntKind.min, IntKind.max, IntKind.signed, IntKind.bits] using hw); exact ⟨hw.1, by show n5 < _; omega⟩⟩
def SQry := sAgg [SBys, SBys, SInts, SBys, S64, S64, S64, SBool, SStr, SBys]
theorem sQry_av {a : AV} {m : Nat} (h : SQry a m) : ∃ x : QryE, a = Zq x ∧ 1 ≤ m := by
 obtain ⟨xs, rfl, hx, rfl⟩ := h
 obtain ⟨x0, xs, rfl, h0, hx⟩ := ZC hx
 obtain ⟨x1, xs, rfl, h1, hx⟩ := ZC hx
 obtain ⟨x2, xs, rfl, h2, hx⟩ := ZC hx
 obtain ⟨x3, xs, rfl, h3, hx⟩ := ZC hx
 obtain ⟨x4, xs, rfl, h4, hx⟩ := ZC hx
 obtain ⟨x5, xs, rfl, h5, hx⟩ := ZC hx
 obtain ⟨x6, xs, rfl, h6, hx⟩ := ZC hx
 obtain ⟨x7, xs, rfl, h7, hx⟩ := ZC hx
 obtain ⟨x8, xs, rfl, h8, hx⟩ := ZC hx
 obtain ⟨x9, xs, rfl, h9, hx⟩ := ZC hx
 obtain rfl := Wh hx
 obtain ⟨n0, e0, _⟩ := XE h0
 obtain ⟨n1, e1, _⟩ := XE h1
 obtain ⟨n2, e2⟩ := sInts_av h2
 obtain ⟨n3, e3, _⟩ := XE h3
 obtain ⟨n4, e4, _, _⟩ := h4
 obtain ⟨n5, e5, _, _⟩ := h5
 obtain ⟨n6, e6, _, _⟩ := h6
 obtain ⟨n7, e7, _⟩ := h7
 obtain ⟨n8, e8, _⟩ := h8
 obtain ⟨n9, e9, _⟩ := XE h9
 exact ⟨⟨n0, n1, n2, n3, n4, n5, n6, n7, n8, n9⟩, by simp [Zq, e0, e1, e2, e3, e4, e5, e6, e7, e8, e9], by omega⟩
def SCmd := sAgg [S64, S64, S64, SBys, (sSl 4 SCond), (sSl 6 SOp), S64, SQry]
theorem sCmd_av {a : AV} {m : Nat} (h : SCmd a m) : ∃ x : CmdE, a = Zh x ∧ 1 ≤ m ∧ ∀ o ∈ x.ops, OFine o := by
 obtain ⟨xs, rfl, hx, rfl⟩ := h
 obtain ⟨x0, xs, rfl, h0, hx⟩ := ZC hx
 obtain ⟨x1, xs, rfl, h1, hx⟩ := ZC hx
 obtain ⟨x2, xs, rfl, h2, hx⟩ := ZC hx
 obtain ⟨x3, xs, rfl, h3, hx⟩ := ZC hx
 obtain ⟨x4, xs, rfl, h4, hx⟩ := ZC hx
 obtain ⟨x5, xs, rfl, h5, hx⟩ := ZC hx
 obtain ⟨x6, xs, rfl, h6, hx⟩ := ZC hx
 obtain ⟨x7, xs, rfl, h7, hx⟩ := ZC hx
 obtain rfl := Wh hx
 obtain ⟨n0, e0, _, _⟩ := h0
 obtain ⟨n1, e1, _, _⟩ := h1
 obtain ⟨n2, e2, _, _⟩ := h2
 obtain ⟨n3, e3, _⟩ := XE h3
 obtain ⟨n4, e4, _⟩ := Us (f := Zu) (q := fun _ => 0) (fun a m h => by obtain ⟨e, h1, h2⟩ := sCond_av h; exact ⟨e, h1, Nat.zero_le _, h2⟩) h4
 obtain ⟨n5', e5', _⟩ := Us (f := fun e : { x : OpE // OFine x } => opAV e.1) (q := fun _ => 0) (fun a m h => by obtain ⟨e, h1, h2, h3⟩ := sOp_av h; exact ⟨⟨e, h3⟩, h1, Nat.zero_le _, h2⟩) h5
 obtain ⟨n5, hn5⟩ : ∃ l : List OpE, l = n5'.map (·.1) := ⟨_, rfl⟩
 have e5 : x5.1 = .sl 6 (n5.map opAV) := by rw [e5', hn5, List.map_map]; rfl
 obtain ⟨n6, e6, _, _⟩ := h6
 obtain ⟨n7, e7, _⟩ := sQry_av h7
 exact ⟨⟨n0, n1, n2, n3, n4, n5, n6, n7⟩, by simp [Zh, e0, e1, e2, e3, e4, e5, e6, e7], by omega, fun o ho => by have ho : o ∈ n5 := ho; rw [hn5] at ho; obtain ⟨x, _, rfl⟩ := List.mem_map.1 ho; exact x.2⟩
def SCel := sAgg [S64, SBys, S64, SBys]
theorem sCel_av {a : AV} {m : Nat} (h : SCel a m) : ∃ x : CelE, a = Z7 x ∧ 1 ≤ m := by
 obtain ⟨xs, rfl, hx, rfl⟩ := h
 obtain ⟨x0, xs, rfl, h0, hx⟩ := ZC hx
 obtain ⟨x1, xs, rfl, h1, hx⟩ := ZC hx
 obtain ⟨x2, xs, rfl, h2, hx⟩ := ZC hx
 obtain ⟨x3, xs, rfl, h3, hx⟩ := ZC hx
 obtain rfl := Wh hx
 obtain ⟨n0, e0, _, _⟩ := h0
 obtain ⟨n1, e1, _⟩ := XE h1
 obtain ⟨n2, e2, _, _⟩ := h2
 obtain ⟨n3, e3, _⟩ := XE h3
 exact ⟨⟨n0, n1, n2, n3⟩, by simp [Z7, e0, e1, e2, e3], by omega⟩
def SRow := sAgg [SBys, (sSl 4 SCel)]
theorem sRow_av {a : AV} {m : Nat} (h : SRow a m) : ∃ x : RowE, a = ZO x ∧ 1 ≤ m ∧ x.cells.length ≤ m := by
 obtain ⟨xs, rfl, hx, rfl⟩ := h
 obtain ⟨x0, xs, rfl, h0, hx⟩ := ZC hx
 obtain ⟨x1, xs, rfl, h1, hx⟩ := ZC hx
 obtain rfl := Wh hx
 obtain ⟨n0, e0, _⟩ := XE h0
 obtain ⟨n1, e1, hl, _⟩ := Us (f := Z7) (q := fun _ => 0) (fun a m h => by obtain ⟨e, h1, h2⟩ := sCel_av h; exact ⟨e, h1, Nat.zero_le _, h2⟩) h1
 exact ⟨⟨n0, n1⟩, by simp [ZO, e0, e1], by omega, by show n1.length ≤ _; simp only [List.map_cons, List.map_nil, List.sum_cons, List.sum_nil]; omega⟩
def pgAV (p : List RowE × List UInt8 × Bool) : AV := .agg [.sl 2 (p.1.map ZO), bys p.2.1, .bool p.2.2]
def SPag := sAgg [(sSl 2 SRow), SBys, SBool]
theorem sPag_av {a : AV} {m : Nat} (h : SPag a m) : ∃ x : (List RowE × List UInt8 × Bool), a = pgAV x ∧ 1 ≤ m ∧ x.1.length ≤ m ∧ ∀ y ∈ x.1, y.cells.length ≤ m := by
 obtain ⟨xs, rfl, hx, rfl⟩ := h
 obtain ⟨x0, xs, rfl, h0, hx⟩ := ZC hx
 obtain ⟨x1, xs, rfl, h1, hx⟩ := ZC hx
 obtain ⟨x2, xs, rfl, h2, hx⟩ := ZC hx
 obtain rfl := Wh hx
 obtain ⟨n0, e0, hl, hc⟩ := Us (f := ZO) (q := fun x => x.cells.length) (fun a m h => by obtain ⟨e, h1, h2, h3⟩ := sRow_av h; exact ⟨e, h1, h3, h2⟩) h0
 obtain ⟨n1, e1, _⟩ := XE h1
 obtain ⟨n2, e2, _⟩ := h2
 refine ⟨⟨n0, n1, n2⟩, by simp [pgAV, e0, e1, e2], by omega, ?_, fun y hy => ?_⟩
 ·show n0.length ≤ _; simp only [List.map_cons, List.map_nil, List.sum_cons, List.sum_nil]; omega
 ·have := hc y hy; simp only [List.map_cons, List.map_nil, List.sum_cons, List.sum_nil]; omega
def SRep := sAgg [S64, SBool, S64, SPag]
def RFine (x : RepE) (m : Nat) : Prop := x.value < 9223372036854775808 ∧ x.rows.length ≤ m ∧ ∀ y ∈ x.rows, y.cells.length ≤ m
theorem i64_bd {n : Int} (h : (Lit.int .i64 n).wf = true) : -9223372036854775808 ≤ n ∧ n < 9223372036854775808 := by
 have h : -9223372036854775808 ≤ n ∧ n ≤ 9223372036854775807 := by simpa [Lit.wf, IntKind.min, IntKind.max, IntKind.signed, IntKind.bits] using h
 omega
theorem sRep_av {a : AV} {m : Nat} (h : SRep a m) : ∃ x : RepE, a = Zy x ∧ 1 ≤ m ∧ RFine x m := by
 obtain ⟨xs, rfl, hx, rfl⟩ := h
 obtain ⟨x0, xs, rfl, h0, hx⟩ := ZC hx
 obtain ⟨x1, xs, rfl, h1, hx⟩ := ZC hx
 obtain ⟨x2, xs, rfl, h2, hx⟩ := ZC hx
 obtain ⟨x3, xs, rfl, h3, hx⟩ := ZC hx
 obtain rfl := Wh hx
 obtain ⟨n0, e0, _, _⟩ := h0
 obtain ⟨n1, e1, _⟩ := h1
 obtain ⟨n2, e2, hw, _⟩ := h2
 obtain ⟨n3, e3, _, hl, hc⟩ := sPag_av h3
 refine ⟨⟨n0, n1, n2, n3.1, n3.2.1, n3.2.2⟩, by simp [Zy, pgAV, e0, e1, e2, e3], by omega, (i64_bd hw).2, ?_, fun y hy => ?_⟩
 ·show n3.1.length ≤ _; simp only [List.map_cons, List.map_nil, List.sum_cons, List.sum_nil]; omega
 ·have := hc y hy; simp only [List.map_cons, List.map_nil, List.sum_cons, List.sum_nil]; omega
theorem r64 : Reads enc prog W Rows.uptoBulk 3 S64 := JX Y5 underlying3
theorem rBys : Reads enc prog W Rows.uptoBulk 25 SBys := XL Y5 underlying25 (by kernel_rfl) (by decide) (JX Y5 underlying5) su8_sz
theorem rBool : Reads enc prog W Rows.uptoBulk 4 SBool := reads_bool Y5 underlying4
theorem rStr : Reads enc prog W Rows.uptoBulk 9 SStr := reads_str Y5 underlying9
theorem rErr : Reads enc prog W Rows.uptoBulk 36 S64 := JX Y5 underlying36
theorem rInts : Reads enc prog W Rows.uptoBulk 28 SInts := XL Y5 underlying28 (by kernel_rfl) (by decide) r64 s64_sz
theorem rFam : Reads enc prog W Rows.uptoBulk 99 SFam := YG Y5 underlying99
 (ZK rfl (reads_str Y5 underlying9) (off' := 1) (by kernel_rfl) (ZK rfl r64 (off' := 2) (by kernel_rfl) (ZK rfl r64 (off' := 3) (by kernel_rfl) (WR (by kernel_rfl)))))
theorem sFam_sz (a : AV) (m : Nat) (h : SFam a m) : a.sz = 3 := by obtain ⟨e, rfl, _⟩ := sFam_av h; exact famAV_sz e
theorem rSch : Reads enc prog W Rows.uptoBulk 24 SSch := YG Y5 underlying24
 (ZK rfl (XL Y5 underlying22 (by kernel_rfl) (by decide) rFam sFam_sz) (off' := 1) (by kernel_rfl) (WR (by kernel_rfl)))
theorem rCond : Reads enc prog W Rows.uptoBulk 60 SCond := YG Y5 underlying60
 (ZK rfl r64 (off' := 1) (by kernel_rfl) (ZK rfl r64 (off' := 2) (by kernel_rfl) (ZK rfl rBys (off' := 3) (by kernel_rfl) (ZK rfl rBys (off' := 4) (by kernel_rfl) (WR (by kernel_rfl))))))
theorem rConds : Reads enc prog W Rows.uptoBulk 26 (sSl 4 SCond) := XL Y5 underlying26 (by kernel_rfl) (by decide) rCond fun a m h => by obtain ⟨x, rfl, _⟩ := sCond_av h; exact Qw x
theorem rOp : Reads enc prog W Rows.uptoBulk 62 SOp := YG Y5 underlying62
 (ZK rfl r64 (off' := 1) (by kernel_rfl) (ZK rfl r64 (off' := 2) (by kernel_rfl) (ZK rfl rBys (off' := 3) (by kernel_rfl) (ZK rfl r64 (off' := 4) (by kernel_rfl) (ZK rfl rBys (off' := 5) (by kernel_rfl) (ZK rfl r64 (off' := 6) (by kernel_rfl) (WR (by kernel_rfl))))))))
theorem rOps : Reads enc prog W Rows.uptoBulk 27 (sSl 6 SOp) := XL Y5 underlying27 (by kernel_rfl) (by decide) rOp fun a m h => by obtain ⟨x, rfl, _⟩ := sOp_av h; exact KV x
theorem rQry : Reads enc prog W Rows.uptoBulk 30 SQry := YG Y5 underlying30
 (ZK rfl rBys (off' := 1) (by kernel_rfl) (ZK rfl rBys (off' := 2) (by kernel_rfl) (ZK rfl rInts (off' := 3) (by kernel_rfl) (ZK rfl rBys (off' := 4) (by kernel_rfl) (ZK rfl r64 (off' := 5) (by kernel_rfl) (ZK rfl r64 (off' := 6) (by kernel_rfl) (ZK rfl r64 (off' := 7) (by kernel_rfl) (ZK rfl rBool (off' := 8) (by kernel_rfl) (ZK rfl rStr (off' := 9) (by kernel_rfl) (ZK rfl rBys (off' := 10) (by kernel_rfl) (WR (by kernel_rfl))))))))))))
theorem rCmd : Reads enc prog W Rows.uptoBulk 32 SCmd := YG Y5 underlying32
 (ZK rfl r64 (off' := 1) (by kernel_rfl) (ZK rfl r64 (off' := 2) (by kernel_rfl) (ZK rfl r64 (off' := 3) (by kernel_rfl) (ZK rfl rBys (off' := 4) (by kernel_rfl) (ZK rfl rConds (off' := 5) (by kernel_rfl) (ZK rfl rOps (off' := 6) (by kernel_rfl) (ZK rfl r64 (off' := 7) (by kernel_rfl) (ZK rfl rQry (off' := 17) (by kernel_rfl) (WR (by kernel_rfl))))))))))
theorem rCel : Reads enc prog W Rows.uptoBulk 87 SCel := YG Y5 underlying87
 (ZK rfl r64 (off' := 1) (by kernel_rfl) (ZK rfl rBys (off' := 2) (by kernel_rfl) (ZK rfl r64 (off' := 3) (by kernel_rfl) (ZK rfl rBys (off' := 4) (by kernel_rfl) (WR (by kernel_rfl))))))
theorem rCels : Reads enc prog W Rows.uptoBulk 83 (sSl 4 SCel) := XL Y5 underlying83 (by kernel_rfl) (by decide) rCel fun a m h => by obtain ⟨x, rfl, _⟩ := sCel_av h; exact celAV_sz x
theorem rRow : Reads enc prog W Rows.uptoBulk 85 SRow := YG Y5 underlying85
 (ZK rfl rBys (off' := 1) (by kernel_rfl) (ZK rfl rCels (off' := 2) (by kernel_rfl) (WR (by kernel_rfl))))
theorem rRows : Reads enc prog W Rows.uptoBulk 65 (sSl 2 SRow) := XL Y5 underlying65 (by kernel_rfl) (by decide) rRow fun a m h => by obtain ⟨x, rfl, _⟩ := sRow_av h; exact rowAV_sz x
theorem rPag : Reads enc prog W Rows.uptoBulk 67 SPag := YG Y5 underlying67
 (ZK rfl rRows (off' := 1) (by kernel_rfl) (ZK rfl rBys (off' := 2) (by kernel_rfl) (ZK rfl rBool (off' := 3) (by kernel_rfl) (WR (by kernel_rfl)))))
theorem rRep : Reads enc prog W Rows.uptoBulk 69 SRep := YG Y5 underlying69
 (ZK rfl rErr (off' := 1) (by kernel_rfl) (ZK rfl rBool (off' := 2) (by kernel_rfl) (ZK rfl r64 (off' := 3) (by kernel_rfl) (ZK rfl rPag (off' := 6) (by kernel_rfl) (WR (by kernel_rfl))))))
set_option maxRecDepth 100000 in
theorem argSch {v : Value} {d : DataW H} {ps : List MemPlace} (hv : Value.okWide prog W .any 0 24 v) (h : DataW.Trod enc prog W 0 (fun _ => true) true 24 v d ps) :
   ∃ s : List Fml, Rel (c0 W) (Zt s) false [v] ∧ s.length ≤ Rows.uptoBulk d := by
 obtain ⟨a, m, h1, h2, h3⟩ := Qu rSch h
 obtain ⟨s, rfl, h4⟩ := sSch_av h1
 refine ⟨s, Jf h2 (fun _ => ?_) (fun h => by simp [Zt, AV.isAgg] at h), by omega⟩
 obtain ⟨cs, hcs, _⟩ := okWide_struct underlying24 hv
 exact ⟨cs, hcs⟩
set_option maxRecDepth 100000 in
theorem argInt {v : Value} {d : DataW H} {ps : List MemPlace} (hv : Value.okWide prog W .any 0 3 v) (h : DataW.Trod enc prog W 0 (fun _ => true) true 3 v d ps) :
   ∃ n : Int, Rel (c0 W) (.int .i64 n) false [v] ∧ (Lit.int .i64 n).wf = true := by
 obtain ⟨n, rfl, rfl, rfl, hw⟩ := open_int underlying3 hv h
 exact ⟨n, by simp [Rel], hw⟩
set_option maxRecDepth 100000 in
theorem argCmd {v : Value} {d : DataW H} {ps : List MemPlace} (hv : Value.okWide prog W .any 0 32 v) (h : DataW.Trod enc prog W 0 (fun _ => true) true 32 v d ps) :
   ∃ x : CmdE, Rel (c0 W) (Zh x) false [v] ∧ ∀ o ∈ x.ops, OFine o := by
 obtain ⟨a, m, h1, h2, h3⟩ := Qu rCmd h
 obtain ⟨x, rfl, _, hf⟩ := sCmd_av h1
 refine ⟨x, Jf h2 (fun _ => ?_) (fun h => by simp [Zh, AV.isAgg] at h), hf⟩
 obtain ⟨cs, hcs, _⟩ := okWide_struct underlying32 hv
 exact ⟨cs, hcs⟩
set_option maxRecDepth 100000 in
theorem argRep {v : Value} {d : DataW H} {ps : List MemPlace} (hv : Value.okWide prog W .any 0 69 v) (h : DataW.Trod enc prog W 0 (fun _ => true) true 69 v d ps) :
   ∃ x : RepE, Rel (c0 W) (Zy x) false [v] ∧ RFine x (Rows.uptoBulk d) := by
 obtain ⟨a, m, h1, h2, h3⟩ := Qu rRep h
 obtain ⟨x, rfl, _, hf⟩ := sRep_av h1
 refine ⟨x, Jf h2 (fun _ => ?_) (fun h => by simp [Zy, AV.isAgg] at h), hf.1, by have := hf.2.1; omega, fun y hy => by have := hf.2.2 y hy; omega⟩
 obtain ⟨cs, hcs, _⟩ := okWide_struct underlying69 hv
 exact ⟨cs, hcs⟩
set_option maxRecDepth 100000 in
theorem argBys {v : Value} {d : DataW H} {ps : List MemPlace} (hv : Value.okWide prog W .any 0 25 v) (h : DataW.Trod enc prog W 0 (fun _ => true) true 25 v d ps) :
   ∃ l : List UInt8, Rel (c0 W) (bys l) false [v] ∧ l.length + 1 ≤ Rows.uptoBulk d := by
 obtain ⟨a, m, h1, h2, h3⟩ := Qu rBys h
 obtain ⟨l, rfl, h4⟩ := XE h1
 obtain ⟨aa, len, cap, rfl⟩ := okWide_slice underlying25 hv
 exact ⟨l, Jf h2 (fun h => by simp [bys, AV.isAgg] at h) (fun _ => rfl), by omega⟩
end
end Go.Proofs.YtifnhpmeoogedaaGreatDoor
namespace Go.Rt
open Go Go.Sx
structure Dec where
 e : Ent
 husk : Bool
 nothing : Bool
 masked : Bool
 expired : Bool
 rank : Int
 deriving Inhabited
def decAV (d : Dec) : AV := .agg [L9 d.e, .bool d.husk, .bool d.nothing, .bool d.masked, .bool d.expired, .int .i64 d.rank]
attribute [go_sem] decAV
structure Wlk where
 s : List Fml
 clock : Int
 any : Bool
 last : Ent
 famMask : Int
 colMask : Int
 rank : Int
 opn : Bool
 ge : Ent
 lone : Bool
 deriving Inhabited
structure Tk (P : Program) where
 σ : Type
 kw : Nat
 recv : AV
 g : FuncId
 o : FuncId
 m : FuncId
 fg : ∃ fn, P.funcs[g]? = some fn ∧ fn.body.isSome = true ∧ (fn.name == "runtime.NumGoroutine") = false
 fo : ∃ fn, P.funcs[o]? = some fn ∧ fn.body.isSome = true ∧ (fn.name == "runtime.NumGoroutine") = false
 fm : ∃ fn, P.funcs[m]? = some fn ∧ fn.body.isSome = true ∧ (fn.name == "runtime.NumGoroutine") = false
 keys : Nat → Prop
 kwn : ¬ keys kw
 holds : σ → Heap → Nat → Prop
 ext : ∀ st H H' n n', n ≤ n' → (∀ k, k < n → k ≠ kw → H' k = H k) → holds st H n → holds st H' n'
 grp : List Fml → σ → Dec → σ
 old : σ → σ
 mrk : σ → Ent → Bool → σ
def tkAV {P : Program} (T : Tk P) : AV := .agg [.fn (.func T.g) [T.recv] [], .fn (.func T.o) [T.recv] [], .fn (.func T.m) [T.recv] []]
def walkAV {P : Program} (T : Tk P) (w : Wlk) : AV := .agg [Zt w.s, .int .i64 w.clock, tkAV T, .bool w.any, L9 w.last, .int .i64 w.famMask, .int .i64 w.colMask, .int .i64 w.rank, .bool w.opn, .agg [L9 w.ge, .bool w.lone]]
attribute [go_sem] tkAV walkAV
structure Left {P : Program} (T : Tk P) (H : Heap) (n : Nat) (w : Wlk) (st : T.σ) (H' : Heap) (n' : Nat) : Prop where
 le : n ≤ n'
 walk : H' T.kw = some (.arr 0 25 [walkAV T w])
 tk : T.holds st H' n'
 rest : ∀ k, k < n → k ≠ T.kw → ¬ T.keys k → H' k = H k
def LeftU {P : Program} (T : Tk P) (H : Heap) (n : Nat) (w : Wlk) (st : T.σ) (res : ARes) (H' : Heap) (n' : Nat) : Prop := res = .val (.tup []) ∧ Left T H n w st H' n'
structure Ahead {P : Program} (T : Tk P) (H : Heap) (n : Nat) (w : Wlk) (st : T.σ) : Prop where
 kw : T.kw < n
 keys : ∀ k, T.keys k → k < n
 walk : H T.kw = some (.arr 0 25 [walkAV T w])
 tk : T.holds st H n
structure TkOK {P : Program} (T : Tk P) (ok : T.σ → Prop) : Prop where
 cg : ∀ (w : Wlk) (st : T.σ) (d : Dec) (H : Heap) (n : Nat), Ahead T H n w st → ok st → 0 ≤ d.e.fam → d.e.fam < w.s.length → d.e.fits → Zx P T.g [T.recv, decAV d] H n (LeftU T H n w (T.grp w.s st d))
 co : ∀ (w : Wlk) (st : T.σ) (H : Heap) (n : Nat), Ahead T H n w st → ok st → Zx P T.o [T.recv] H n (LeftU T H n w (T.old st))
 cm : ∀ (w : Wlk) (st : T.σ) (e : Ent) (b : Bool) (H : Heap) (n : Nat), Ahead T H n w st → ok st → e.fits → Zx P T.m [T.recv, L9 e, .bool b] H n (LeftU T H n w (T.mrk st e b))
theorem Zi {P : Program} {f : FuncId} {fn : Func} {first captured args args' : List AV} {H : Heap} {n : Nat} {k kp : AV → Heap → Nat → Prop} {K0 : ARes → Heap → Nat → Prop}
   (hf : P.funcs[f]? = some fn) (hb : fn.body.isSome = true) (hn : (fn.name == "runtime.NumGoroutine") = false) (ha : first ++ args ++ captured = args') (h : Zx P f args' H n K0)
   (hk : ∀ r H' n', K0 (.val r) H' n' → k r H' n') (hp : ∀ p H' n', K0 (.pan p) H' n' → kp p H' n') : Wz P (.fn (.func f) first captured) args H n k kp := by
 rw [callK_fn]
 exact .inl ⟨⟨fn, hf, hb, hn⟩, by rw [ha]; exact h.mono fun r H n hr => by cases r <;> first | exact hk _ _ _ hr | exact hp _ _ _ hr⟩
def famAt (s : List Fml) (i : Int) : Fml := s.getD i.toNat default
def dec0 (w : Wlk) : Dec := ⟨w.ge, bif w.ge.kind == 2 then true else bif w.ge.kind == 3 then !w.lone else false, w.lone, decide (w.ge.ts ≤ max w.famMask w.colMask), bif decide (0 < (famAt w.s w.ge.fam).ttl) then decide (w.ge.ts + (famAt w.s w.ge.fam).ttl ≤ w.clock) else false, 0⟩
structure WOK (w : Wlk) : Prop where
 fam : w.opn = true → 0 ≤ w.ge.fam ∧ w.ge.fam < w.s.length ∧ w.ge.fits ∧ 0 ≤ w.ge.ts ∧ w.ge.ts ≤ 1099511627776
 ttl : ∀ f ∈ w.s, 0 ≤ f.ttl ∧ f.ttl ≤ 1099511627776
 rank : 0 ≤ w.rank ∧ w.rank < 4611686018427387904
structure Amid {P : Program} (T : Tk P) (H : Heap) (n : Nat) (e : Ent) (w : Wlk) (st : T.σ) (T' : Nat → AV) (H' : Heap) (n' : Nat) : Prop where
 t0 : T' 0 = .loc T.kw 0 0 0 []
 t3 : T' 3 = .loc n 0 0 0 []
 en : H' n = some (.arr 0 7 [L9 e])
 le : n + 1 ≤ n'
 walk : H' T.kw = some (.arr 0 25 [walkAV T w])
 tk : T.holds st H' n'
 rest : ∀ k, k < n → k ≠ T.kw → ¬ T.keys k → H' k = H k
section
variable {P : Program} {T : Tk P} {H H1 : Heap} {n n1 : Nat} {e : Ent} {w' : Wlk} {st : T.σ}
end
def goodE (s : List Fml) (e : Ent) : Prop := 0 ≤ e.fam ∧ e.fam < s.length ∧ e.fits ∧ 0 ≤ e.ts ∧ e.ts ≤ 1099511627776
structure WRk (s : List Fml) (r : Int) (w : Wlk) : Prop where
 sch : w.s = s
 fam : w.opn = true → goodE s w.ge
 lo : 0 ≤ w.rank
 hi : w.rank ≤ r
theorem WRk.mono {s : List Fml} {r r' : Int} {w : Wlk} (h : WRk s r w) (hr : r ≤ r') : WRk s r' w := ⟨h.sch, h.fam, h.lo, by have := h.hi; omega⟩
structure TkInv {P : Program} (T : Tk P) (ok : T.σ → Prop) (M : Nat) (inv : Nat → T.σ → Prop) : Prop where
 ok : ∀ i st, i ≤ M → inv i st → ok st
 up : ∀ i st, inv i st → inv (i + 1) st
 g : ∀ i s st d, inv i st → inv (i + 1) (T.grp s st d)
 o : ∀ i st, inv i st → inv (i + 1) (T.old st)
 m : ∀ i st e b, inv i st → inv (i + 1) (T.mrk st e b)
structure KSt where
 major : Bool
 low : Int
 out : List Ent
 older : Int
 masked : Int
 expired : Int
 above : Int
 marks : Int
def KSt.ok (s : KSt) : Prop := 0 ≤ s.older ∧ 0 ≤ s.masked ∧ 0 ≤ s.expired ∧ 0 ≤ s.above ∧ 0 ≤ s.marks ∧ s.older + s.masked + s.expired + s.above + s.marks + s.out.length ≤ 1000000000000
inductive Ev where
 | g (d : Dec)
 | o
 | m (e : Ent) (b : Bool)
section
variable {P : Program} (T : Tk P)
end
structure SSt where
 t : Int
 n : Int
 out : List Ent
 count : Int
 last : Ent
end Go.Rt
namespace Go.Sx
variable {α : Type}
structure Ord (lt : α → α → Bool) : Prop where
 tr : ∀ x y z, lt y x = false → lt z y = false → lt z x = false
 asym : ∀ x y, lt x y = true → lt y x = false
def Srt (lt : α → α → Bool) (l : List α) : Prop := l.Pairwise fun x y => lt y x = false
variable {lt : α → α → Bool}
theorem Srt.take {l : List α} (h : Srt lt l) (n : Nat) : Srt lt (l.take n) := List.Pairwise.sublist (List.take_sublist _ _) h
theorem Srt.drop {l : List α} (h : Srt lt l) (n : Nat) : Srt lt (l.drop n) := List.Pairwise.sublist (List.drop_sublist _ _) h
end Go.Sx
namespace Go.Rt
open Go Go.Sx
attribute [go_sem] List.getD_cons_zero List.getD_cons_succ
end Go.Rt
namespace Go.Sx
open Go
end Go.Sx