/- Own layer: an append to a slice that need not end where its object's contents end (old slices stay readable): in place, or in new memory. Of every program. -/
import Derived.Test.YtkmkbndcekklmaaGreatDoorPF
import Derived.Test.YtkmkbndcekklmaaGreatDoorPE
import Derived.Test.YtkmkbndcekklmaaGreatDoorPD
import Derived.Test.YtkmkbndcekklmaaGreatDoorPK
import Derived.Test.YtkmkbndcekklmaaGreatDoorPJ
set_option linter.unusedSimpArgs false
set_option linter.unusedVariables false
namespace Go.Sx
open Go
def AppOM (ver off len s by':Nat) (kk:Nat) (H:Heap) (n:Nat) (C:Prop) (eo:Option Nat) (ys:List AV) (k:AV→Heap→Nat→Prop):Option AObj→Prop
 | some (.arr ver' esz els) => (ver = ver' ∧ off = 0 ∧ len ≤ els.length ∧ esz = s ∧ C ∧ (eo = none ∨ eo = some s) ∧ 0 < ys.length ∧ (len + ys.length) * by' ≤ 140737488355328 ∧ len + ys.length ≤ 4611686018427387904) ∧
     k (.osl kk ver 0 (len+ys.length)) (H.put kk (some (.arr ver esz (els.take len++ys++els.drop (len+ys.length))))) n∧k (.osl n 0 0 (len+ys.length)) (H.put n (some (.arr 0 esz (els.take len++ys)))) (n+1)
 | _=>False
def JM (H:Heap) (n:Nat) (k:AV→Heap→Nat→Prop):AV→Option (Nat×Nat)→Option (Prop×Option Nat×List AV)→Prop
 | .nilsl,some (s,by'),some (C,eo,ys)=>(C∧(eo=none∨eo=some s)∧ys.length*by'≤140737488355328∧ys.length≤4611686018427387904)∧k (.osl n 0 0 ys.length) (H.put n (some (.arr 0 s ys))) (n+1)
 | .osl kk ver off len,some (s,by'),some (C,eo,ys)=>AppOM ver off len s by' kk H n C eo ys k (H kk)
 | _,_,_=>False
theorem ot_appM {P : Program} {H : Heap} {n : Nat} {dst : Option Tmp} {t : TypeId} {x y : Operand} {ty : TypeId} {pos : String} {after : Array Edge} {guard : Option (Nat × Bool)} {ε : Operand → AV} {k : AV → Heap → Nat → Prop}
   (h:JM H n k (ε x) (tEl P t) (slcO H (ε y))):OpT P ⟨dst,.call ⟨.builtin .append,#[x,y],#[t,t]⟩,ty,pos,after,guard⟩ ε H n (fun res H' n'=>match res with | .val r=>k r H' n' | .pan _=>False):=
 OpT.of_run fun c w ρv hs hr=>by
   have hx:=hr x (by simp[Op.operands,Call.operands])
   have hy:=hr y (by simp[Op.operands,Call.operands])
   have hexec:∀v w',(Builtin.append_ #[t,t] ty #[ρv x,ρv y]).run P w= .ok v w'→(execOp ρv ⟨dst,.call ⟨.builtin .append,#[x,y],#[t,t]⟩,ty,pos,after,guard⟩).run P w= .ok (.value v) w':=fun v w' hh=>by
     simp[execOp,resolve,invoke,builtin,hh]
   generalize ε x=xa at h hx
   cases ht:tEl P t with
   | none=>rw[ht]at h;cases xa<;>simp[JM]at h
   | some sb=>
   obtain⟨s,by'⟩:=sb
   cases hsl:slcO H (ε y)with
   | none=>rw[hsl,ht]at h;cases xa<;>simp[JM]at h
   | some q=>
   obtain⟨Cy,eo,ys⟩:=q
   rw[hsl,ht]at h
   obtain⟨e,i,z,hu,hi,hz,hzs,hpos,hsz,hby⟩:=UD ht
   have hyzG:∀(c2:eo=none∨eo=some s) (hzz:∀x∈ys,∀e,eo=some e→x.sz=e),∀u∈ys,u.sz=s:=fun c2 hzz u hu=>by
     rcases c2 with c2 | c2
     ·subst c2
      unfold slcO at hsl
      split at hsl
      ·simp at hsl;rw[hsl.2]at hu;simp at hu
      ·simp at hsl
      ·unfold slcO.slcA at hsl;split at hsl<;>simp at hsl
      ·simp at hsl
     ·exact hzz u hu s c2
   cases xa<;>simp only[JM]at h
   ·
     obtain⟨⟨c1,c2,c3,c4⟩,V⟩:=h
     obtain⟨a,cap,ds,ev,hrf,hzz,hcase⟩:=Jg hs hy hsl c1
     simp only[Rel,List.cons.injEq,and_true]at hx
     have hyz:=hyzG c2 hzz
     have hdl:ds.length=ys.length*i.size:=by rw[(RelF.len _ _ hrf).1,Pz hyz,hsz]
     by_cases h0:ys=[]
     ·subst h0
      refine⟨_,.slice none 0 0,_,_,_,w,.inl (hexec _ _ ?_),PR hs s,?_,V⟩
      ·rw[hx,ev];exact XQ hu hi none a 0 0 cap (Nat.le_refl _)
      ·simp only[Rel];exact⟨.nil,Py,osi⟩
     ·obtain⟨ad,rfl,hcells⟩:=hcase.resolve_left (fun h=>h0 h.2)
      have hlen:0<ys.length:=List.length_pos_iff.2 h0
      have hrun:=run_append_nil (P:=P) w t ty e i z hu hi hz ad ys.length cap ds hdl hcells hlen om (by rw[hby];omega)
      have hgc:=grownCap_ge w ys.length 0 e
      have hst:=PI (PM hs) (ds.toArray++Builtin.zeroCells z.cells (grownCap w ys.length 0 e-ys.length)) e (grownCap w ys.length 0 e) s ys ds hyz hgc
        (by simp only[Array.size_append,List.size_toArray,size_zeroCells,hzs,hdl,hsz];rw[←Nat.add_mul];congr 1;omega) hrf (At.zero.2 ⟨_,by simp;rfl⟩)
      refine⟨_,_,_,_,_,_,.inl (hexec _ _ (by rw[hx,ev];exact hrun)),(Step.drew hs).trans hst,?_,V⟩
      simp only[Rel]
      exact⟨_,Py,grownCap w ys.length 0 e,0,hgc,osi,.inr osi,rfl⟩
   ·
     rename_i kk ver off len
     unfold AppOM at h
     split at h
     ·rename_i ver' esz els hk
      obtain⟨⟨d1,d2,d3,d4,c1,c2,c0,c3,c4⟩,hK1,hK2⟩:=h
      subst d1;subst d2;subst d4
      obtain⟨a,cap,ds,ev,hrf,hzz,hcase⟩:=Jg hs hy hsl c1
      have hyz:=hyzG c2 hzz
      have hdl:ds.length=ys.length*i.size:=by rw[(RelF.len _ _ hrf).1,Pz hyz,hsz]
      simp only[Rel,List.cons.injEq,and_true]at hx
      obtain⟨l,hl,hm⟩:=hx
      have ho:=hs.own kk _ hk
      simp only[ZK]at ho
      obtain⟨l',hl',hm'⟩:=ho
      rw[hl]at hl';cases hl'
      have hys0:ys≠[]:=fun h=>by rw[h]at c0;simp at c0
      obtain⟨ad,rfl,hcells⟩:=hcase.resolve_left (fun h=>hys0 h.2)
      cases l with
      | nil=>
        obtain⟨_,h2,evx⟩:=hm
        simp only at hm'
        subst hm'
        subst h2
        have hrun:=run_append_nil (P:=P) w t ty e i z hu hi hz ad ys.length cap ds hdl hcells c0 (by simp at c4;omega) (by rw[hby];simp at c3;omega)
        have hgc:=grownCap_ge w ys.length 0 e
        have hst:=PI (PM hs) (ds.toArray++Builtin.zeroCells z.cells (grownCap w ys.length 0 e-ys.length)) e (grownCap w ys.length 0 e) esz (([]:List AV)++ys) ds (by simpa using hyz) (by simpa using hgc)
          (by simp only[Array.size_append,List.size_toArray,size_zeroCells,hzs,hdl,hsz];rw[←Nat.add_mul];congr 1;omega) (by simpa using hrf) (At.zero.2 ⟨_,by simp;rfl⟩)
        refine⟨_,_,_,_,_,_,.inl (hexec _ _ (by rw[evx,ev];exact hrun)),(Step.drew hs).trans hst,?_,hK2⟩
        simp only[Rel]
        exact⟨_,Py,grownCap w ys.length 0 e,0,by simpa using hgc,osi,.inr osi,osi⟩
      | blk b cp e'=>
        obtain⟨cp',o',h1,h2,h3,evx⟩:=hm
        obtain⟨he,hze,hcl,arr,tyb,olds,hb,hasz,hrfe,ha⟩:=hm'
        subst he
        obtain⟨E1,E2,rfl,hE1⟩:∃E1 E2,els=E1++E2∧E1.length=len:=⟨els.take len,els.drop len,(List.take_append_drop _ _).symm,by rw[List.length_take];omega⟩
        subst hE1
        obtain⟨o1,o2,rfl,hr1,hr2⟩:=RelF.append.1 hrfe
        have hz1:∀u∈E1,u.sz=e':=fun u hu=>hze u (by simp[hu])
        have hz2:∀u∈E2,u.sz=e':=fun u hu=>hze u (by simp[hu])
        have hol1:o1.length=E1.length*i.size:=by rw[(RelF.len _ _ hr1).1,Pz hz1,hsz]
        obtain⟨post,hp⟩:=At.zero.1 ha
        have holds:∀j v,o1[j]? =some v→w.cell? ((⟨b,0,none⟩:Addr).add j)=some v:=fun j v hj=>by
          rw[Addr.add_plain,Nat.zero_add]
          simp only[World.cell?,hb]
          have hj2:(o1++o2)[j]? =some v:=by rw[List.getElem?_append_left (List.getElem?_eq_some_iff.1 hj).1];exact hj
          have:=ha j v hj2
          simpa using this
        have ht1:(E1++E2).take E1.length=E1:=List.take_left
        have ht2:(E1++E2).drop (E1.length+ys.length)=E2.drop ys.length:=by rw[←List.drop_drop,List.drop_left]
        rw[ht1,ht2]at hK1
        rw[ht1]at hK2
        have hbo:Zj c kk (.arr ver e' (E1++E2))=some b:=by simp[Zj,AObj.ver,hl]
        by_cases hroom:E1.length+ys.length≤cp'
        ·
          have eo':o'=0:=by rcases h3 with h3 | h3<;>omega
          subst eo'
          have hone:=(RelF.len _ _ hrf).2
          have hcp:cp'=cp:=om
          have hfit:E1.length*i.size+ds.length≤arr.size:=by
            rw[hdl,hasz,←Nat.add_mul,←hsz];exact Nat.mul_le_mul_right _ om
          have hrun:=run_append_room' (P:=P) (ty:=ty) (c:=cap) hu hi hb hdl hcells hone hroom hfit
          have htake:arr.toList.take (E1.length*i.size)=o1:=by rw[hp,←hol1,List.append_assoc,List.take_left]
          rw[htake]at hrun
          have hwb:∀b' cs,b'≠b→(w.setRow b cs).heap[b']? =w.heap[b']? :=fun b' cs hb'=>setRow_other w b b' _ hb'
          obtain⟨p1,p2,hp12,hq1,hq2⟩:=RelF.append.1 (show RelF c (E2.take ys.length++E2.drop ys.length) o2 by rw[List.take_append_drop];exact hr2)
          have hdrop:∃rest,arr.toList.drop (E1.length*i.size+ds.length)=p2++rest:=by
            rw[hp,List.append_assoc,←List.drop_drop,←hol1,List.drop_left,hdl]
            by_cases hm:ys.length≤E2.length
            ·have hpl:p1.length=ys.length*i.size:=by rw[(RelF.len _ _ hq1).1,Pz (fun u hu=>hz2 u (List.mem_of_mem_take hu)),hsz,List.length_take,Nat.min_eq_left hm]
             refine⟨post,?_⟩
             rw[hp12,List.append_assoc,←hpl,List.drop_left]
            ·have : p2 = [] := by
               have:=(RelF.len _ _ hq2).1
               rw[List.drop_eq_nil_of_le om]at this
               exact List.eq_nil_of_length_eq_zero (by simpa [AV.szs]using this)
             exact⟨_,by rw[this];rfl⟩
          obtain⟨rest,hrest⟩:=hdrop
          have hst:=Step.write (w':=w.setRow b (o1++ds++List.drop (E1.length*i.size+ds.length) arr.toList).toArray) hs kk (.arr ver e' (E1++E2)) (.arr ver e' (E1++ys++E2.drop ys.length)) hk rfl ⟨rfl,rfl,rfl,by simp[World.setRow],fun b' _ hS=>hwb b' _ fun e=>hS ⟨kk,_,hk,by rw[e];exact hbo⟩⟩
            (fun k'' o'' b' hne hk' hb'=>hwb b' _ fun e=>hne (hs.inj k'' kk o'' _ b hk' hk (by rw[←e];exact hb') hbo))
            (fun b' a' hb'=>hwb b' _ fun e=>by have:=hs.sep kk _ b hk hbo;rw[←e,hb']at this;simp at this) (by
              simp only[ZK]
              refine⟨_,hl,rfl,?_,?_,_,tyb,o1++ds++p2,setRow_heap w b arr _ tyb _ hb,?_,RelF.append.2 ⟨_,_,rfl,RelF.append.2 ⟨_,_,rfl,hr1,hrf⟩,hq2⟩,At.zero.2 ⟨rest,by rw[hrest];simp⟩⟩
              ·intro u hu
               rcases List.mem_append.1 hu with hu | hu
               ·rcases List.mem_append.1 hu with hu | hu
                ·exact hz1 u hu
                ·exact hyz u hu
               ·exact hz2 u (List.mem_of_mem_drop hu)
              ·rw[List.length_append]at hcl;simp only[List.length_append,List.length_drop];omega
              ·rw[←hasz]
               simp only[List.size_toArray,List.length_append,List.length_drop,hol1,Array.length_toList]
               omega)
          refine⟨_,_,_,_,_,_,.inl (hexec _ _ (by rw[evx,ev];exact hrun)),hst,?_,hK1⟩
          simp only[Rel]
          exact⟨_,hl,cp',0,hroom,by simpa using h2,.inr osi,rfl⟩
        ·
          have helems:∀u∈E1++ys,u.sz=e':=fun u hu=>by
            rcases List.mem_append.1 hu with h | h
            ·exact hz1 u h
            ·exact hyz u h
          have hrunG:∀bb:Addr,(∀j v,o1[j]? =some v→w.cell? (bb.add j)=some v)→(Builtin.append_ #[t,t] ty #[.slice (some bb) E1.length cp',.slice (some ad) ys.length cap]).run P w=_:=fun bb hbb=>
            run_append_grow (P:=P) w t ty e i z hu hi hz bb E1.length cp' o1 hol1 hbb ad ys.length cap ds hdl hcells om om (growslice_fits om (by rw[hby];exact c3))
          have hgc:=grownCap_ge w (E1.length+ys.length) cp' e
          have hst:=PI (PM hs) (o1.toArray++ds.toArray++Builtin.zeroCells z.cells (grownCap w (E1.length+ys.length) cp' e-(E1.length+ys.length))) e (grownCap w (E1.length+ys.length) cp' e) e' (E1++ys) (o1++ds)
            helems (by rw[List.length_append];exact hgc) (by simp only[Array.size_append,List.size_toArray,size_zeroCells,hzs,hol1,hdl,hsz];rw[←Nat.add_mul,←Nat.add_mul];congr 1;omega) (RelF.append.2 ⟨_,_,rfl,hr1,hrf⟩) (At.zero.2 ⟨_,by simp;rfl⟩)
          have hbb:∀j v,o1[j]? =some v→w.cell? ((⟨b,o',none⟩:Addr).add j)=some v:=by
            rcases h3 with h3 | h3
            ·have:E1.length=0:=om
             have:o1=[]:=List.eq_nil_of_length_eq_zero (by rw[hol1,this];simp)
             subst this
             intro j v hj;simp at hj
            ·rw[h3,Nat.zero_mul];exact holds
          refine⟨_,_,_,_,_,_,.inl (hexec _ _ (by rw[evx,ev];exact hrunG _ hbb)),(Step.drew hs).trans hst,?_,hK2⟩
          simp only[Rel]
          exact⟨_,Py,grownCap w (E1.length+ys.length) cp' e,0,hgc,osi,.inr osi,rfl⟩
     ·exact h.elim
   all_goals exact h.elim
theorem awp_reg_apm {P : Program} {N id : Nat} {l : List Oper} {y : Code} {T : Nat → AV} {H : Heap} {n : Nat} {Q : QK} (z : TypeId → AV) (live : List Nat) (i : Nat) {dst : Option Tmp} {t : TypeId} {xo yo : Operand} {ty : TypeId} {pos : String} {after : Array Edge}
   (ho:l=l.take i++⟨dst,.call ⟨.builtin .append,#[xo,yo],#[t,t]⟩,ty,pos,after,none⟩::l.drop (i+1)) (hd:dOK N dst)
   (h:∀K:KT,(∀T H n,awp P N y T H n Q→K T H n)→
     erun P z N l.toArray (l.take i) T H n (Zz (fun T1 H1 n1=>JM H1 n1 (fun r H2 n2=>erun P z N l.toArray (l.drop (i+1)) (tput T1 dst r) H2 n2 (Zz (fun T' H' n'=>K (tsel live T') H' n') Q)) (evO T1 xo) (tEl P t) (slcO H1 (evO T1 yo))) Q)):
   awp P N (.seq (.region id l.toArray false) y) T H n Q:=by
 refine Uh ?_
 have key:lrun P N l.toArray l T H n (Zz (fun T' H' n'=>awp P N y (tsel live T') H' n' Q) Q):=by
   have h1:=h (fun T H n=>awp P N y T H n Q) (fun _ _ _ h=>h)
   have:lrun P N l.toArray (l.take i++⟨dst,.call ⟨.builtin .append,#[xo,yo],#[t,t]⟩,ty,pos,after,none⟩::l.drop (i+1)) T H n (Zz (fun T' H' n'=>awp P N y (tsel live T') H' n' Q) Q):=by
     refine Yf ?_ ?_ _ _ _ _ h1
     ·intro T1 H1 n1 hA c w a hs hr hN ds hdf
      have hA:=hA
      simp only[Zz]at hA
      exact Yj (o:=⟨dst,.call ⟨.builtin .append,#[xo,yo],#[t,t]⟩,ty,pos,after,none⟩) (kp:=fun _ _ _=>False) hd ((ot_appM (ε:=evO T1) hA).mono fun r H n hk=>by cases r<;>exact hk) hs hr hN hdf (Yt rfl) (fun x _=>XU hr x) (fun x=>x) (fun _ _ _ h=>h)
        (fun r H' n' hk=>ZV _ _ _ _ hk) (fun _ _ _ h=>h.elim)
     ·intro p T H n h;exact h
   rw[←ho]at this
   exact this
 have hr:awp P N (.region id l.toArray false) T H n (Zz (fun T' H' n'=>awp P N y (tsel live T') H' n' Q) Q):=fun c w a hs hr hN ds hd=>wp_region_list (by simpa using key c w a hs hr hN ds hd)
 exact hr.mono fun e T' H' n' hq=>by
   exact kcJ
theorem awp_reg_apm1 {P : Program} {N id : Nat} {l : List Oper} {T : Nat → AV} {H : Heap} {n : Nat} {Q : QK} (z : TypeId → AV) (live : List Nat) (i : Nat) {dst : Option Tmp} {t : TypeId} {xo yo : Operand} {ty : TypeId} {pos : String} {after : Array Edge}
   (ho:l=l.take i++⟨dst,.call ⟨.builtin .append,#[xo,yo],#[t,t]⟩,ty,pos,after,none⟩::l.drop (i+1)) (hd:dOK N dst)
   (h:∀K:KT,(∀T H n,Q .normal T H n→K T H n)→
     erun P z N l.toArray (l.take i) T H n (Zz (fun T1 H1 n1=>JM H1 n1 (fun r H2 n2=>erun P z N l.toArray (l.drop (i+1)) (tput T1 dst r) H2 n2 (Zz (fun T' H' n'=>K (tsel live T') H' n') Q)) (evO T1 xo) (tEl P t) (slcO H1 (evO T1 yo))) Q)):
   awp P N (.region id l.toArray false) T H n Q:=by
 have key:lrun P N l.toArray l T H n (Zz (fun T' H' n'=>Q .normal (tsel live T') H' n') Q):=by
   have h1:=h (fun T H n=>Q .normal T H n) (fun _ _ _ h=>h)
   have:lrun P N l.toArray (l.take i++⟨dst,.call ⟨.builtin .append,#[xo,yo],#[t,t]⟩,ty,pos,after,none⟩::l.drop (i+1)) T H n (Zz (fun T' H' n'=>Q .normal (tsel live T') H' n') Q):=by
     refine Yf ?_ ?_ _ _ _ _ h1
     ·intro T1 H1 n1 hA c w a hs hr hN ds hdf
      have hA:=hA
      simp only[Zz]at hA
      exact Yj (o:=⟨dst,.call ⟨.builtin .append,#[xo,yo],#[t,t]⟩,ty,pos,after,none⟩) (kp:=fun _ _ _=>False) hd ((ot_appM (ε:=evO T1) hA).mono fun r H n hk=>by cases r<;>exact hk) hs hr hN hdf (Yt rfl) (fun x _=>XU hr x) (fun x=>x) (fun _ _ _ h=>h)
        (fun r H' n' hk=>ZV _ _ _ _ hk) (fun _ _ _ h=>h.elim)
     ·intro p T H n h;exact h
   rw[←ho]at this
   exact this
 have hr:awp P N (.region id l.toArray false) T H n (Zz (fun T' H' n'=>Q .normal (tsel live T') H' n') Q):=fun c w a hs hr hN ds hd=>wp_region_list (by simpa using key c w a hs hr hN ds hd)
 exact Ui live hr
theorem drun_app {P : Program} {z : TypeId → AV} {N : Nat} {ops : Array Oper} {Q Q1 : QK} {b : List (Nat × DK × List Nat)} (h2 : ∀ T H n, Q1 .normal T H n → drun P z N ops b T H n Q) (hp : ∀ p T H n, Q1 (.pan p) T H n → Q (.pan p) T H n) : ∀ (a : List (Nat × DK × List Nat)) (T : Nat → AV) (H : Heap) (n : Nat),
   drun P z N ops a T H n Q1→drun P z N ops (a++b) T H n Q
 | [],T,H,n,h=>h2 T H n h
 | (i,k,I)::a,T,H,n,h=>Xw (fun T H n h=>drun_app h2 hp a T H n h) hp h
theorem awp_drm0 {P : Program} {N id : Nat} {l : List Oper} {T : Nat → AV} {H : Heap} {n : Nat} {Q Qp : QK} (hm : P.follows .mixedOrders = true) (z : TypeId → AV) (ks : List DK) (pre post ps : List Nat) (j : Nat)
   {dst:Option Tmp} {t:TypeId} {xo yo:Operand} {ty:TypeId} {pos:String} {after:Array Edge} (hj:l[j]? =some ⟨dst,.call ⟨.builtin .append,#[xo,yo],#[t,t]⟩,ty,pos,after,none⟩) (hk:ks[j]? =some (.w [])) (hd:dOK N dst)
   (hc:Wt l N l.length ks (pre++j::post) [] .m (fun _=> .m) ps=true) (hpan:∀p T T' H n,Q (.pan p) T H n→Q (.pan p) T' H n)
   (h:dr P z N l (opkL l ks pre) T H n (Zz (fun T1 H1 n1=>JM H1 n1 (fun r H2 n2=>dr P z N l (opkL l ks post) (tput T1 dst r) H2 n2 Q) (evO T1 xo) (tEl P t) (slcO H1 (evO T1 yo))) Qp)) (hQp:∀p T H n,Qp (.pan p) T H n→Q (.pan p) T H n):awp P N (.region id l.toArray true) T H n Q:=
 awp_drxd hm z ks _ ps hc hpan fun h1 h2=>by
   rw[List.map_append]
   refine drun_app (Q1:=Zz _ Qp) ?_ (fun p T H n h=>hQp p T H n h) _ _ _ _ (UK h2 pre T H n (fun i hi=>h1 i (by simp[hi])) h)
   intro T1 H1 n1 hA
   simp only[Zz]at hA
   have ei:item ks j=(j,.w [],[]):=by simp[item,List.getD,hk,DK.inc]
   rw[List.map_cons,ei]
   show ZN P z N l.toArray j _ _ T1 H1 n1 _ Q
   unfold ZN
   simp only[List.getElem?_toArray,hj]
   refine⟨hd,trivial,(ot_appM hA).mono fun r H n hr=> ?_⟩
   cases r with
   | val r=>exact⟨fun q hq=>by simp at hq,UK h2 post _ _ _ (fun i hi=>h1 i (by simp[hi])) hr⟩
   | pan p=>exact hr.elim
theorem awp_drm {P : Program} {N id : Nat} {l : List Oper} {y : Code} {T : Nat → AV} {H : Heap} {n : Nat} {Q : QK} (hm : P.follows .mixedOrders = true) (z : TypeId → AV) (live : List Nat) (ks : List DK) (pre post ps : List Nat) (j : Nat)
   {dst:Option Tmp} {t:TypeId} {xo yo:Operand} {ty:TypeId} {pos:String} {after:Array Edge} (hj:l[j]? =some ⟨dst,.call ⟨.builtin .append,#[xo,yo],#[t,t]⟩,ty,pos,after,none⟩) (hk:ks[j]? =some (.w [])) (hd:dOK N dst)
   (hc:Wt l N l.length ks (pre++j::post) [] .m (fun _=> .m) ps=true) (hpan:∀p T T' H n,Q (.pan p) T H n→Q (.pan p) T' H n)
   (h:∀K:KT,(∀T H n,awp P N y T H n Q→K T H n)→dr P z N l (opkL l ks pre) T H n (Zz (fun T1 H1 n1=>JM H1 n1 (fun r H2 n2=>dr P z N l (opkL l ks post) (tput T1 dst r) H2 n2 (Zz (fun T' H' n'=>K (tsel live T') H' n') Q)) (evO T1 xo) (tEl P t) (slcO H1 (evO T1 yo))) Q)):awp P N (.seq (.region id l.toArray true) y) T H n Q:=
 Uh ((awp_drm0 (Q:=Zz (fun T' H' n'=>awp P N y (tsel live T') H' n' Q) Q) hm z ks pre post ps j hj hk hd hc (fun p T T' H n hq=>hpan p T T' H n hq) (h (fun T' H' n'=>awp P N y T' H' n' Q) (fun _ _ _ h=>h)) fun _ _ _ _ h=>h).mono fun e T' H' n' hq=>by
   cases e<;>first | exact Yl live hq | exact hq)
theorem AppDM_nil (H:Heap) (n:Nat) (k:AV→Heap→Nat→Prop) (s by':Nat) (C:Prop) (eo:Option Nat) (ys:List AV):JM H n k .nilsl (some (s,by')) (some (C,eo,ys))=((C∧(eo=none∨eo=some s)∧ys.length*by'≤140737488355328∧ys.length≤4611686018427387904)∧k (.osl n 0 0 ys.length) (H.put n (some (.arr 0 s ys))) (n+1)):=rfl
theorem AppDM_osl (H:Heap) (n:Nat) (k:AV→Heap→Nat→Prop) (kk ver off len s by':Nat) (C:Prop) (eo:Option Nat) (ys:List AV):JM H n k (.osl kk ver off len) (some (s,by')) (some (C,eo,ys))=AppOM ver off len s by' kk H n C eo ys k (H kk):=rfl
def AppKM (k:AV→Heap→Nat→Prop) (H:Heap) (n kk ver esz len:Nat) (els ys:List AV):Prop:=
 k (.osl kk ver 0 (len+ys.length)) (H.put kk (some (.arr ver esz (els.take len++ys++els.drop (len+ys.length))))) n∧k (.osl n 0 0 (len+ys.length)) (H.put n (some (.arr 0 esz (els.take len++ys)))) (n+1)
theorem AppOM_some (ver off len s by' kk:Nat) (H:Heap) (n:Nat) (C:Prop) (eo:Option Nat) (ys:List AV) (k:AV→Heap→Nat→Prop) (ver' esz:Nat) (els:List AV):AppOM ver off len s by' kk H n C eo ys k (some (.arr ver' esz els))=((ver=ver'∧off=0∧len≤els.length∧esz=s∧C∧(eo=none∨eo=some s)∧0<ys.length∧(len+ys.length)*by'≤140737488355328∧len+ys.length≤4611686018427387904)∧
 AppKM k H n kk ver esz len els ys):=rfl
theorem AppKM.all {k : AV → Heap → Nat → Prop} {H : Heap} {n kk ver esz len : Nat} {els ys : List AV} (hkk : kk < n)
   (h:∀gk gv H2 n2,n≤n2→gk<n2→(gk=kk∨n≤gk)→(∃rest,H2 gk=some (.arr gv esz (els.take len++ys++rest)))→(H2 kk=some (.arr ver esz els)∨H2 kk=some (.arr ver esz (els.take len++ys++els.drop (len+ys.length))))→(∀j,j<n→j≠kk→H2 j=H j)→k (.osl gk gv 0 (len+ys.length)) H2 n2)
   (hH:H kk=some (.arr ver esz els)):AppKM k H n kk ver esz len els ys:=by
 refine⟨h _ _ _ _ (Nat.le_refl _) hkk (.inl rfl) ⟨_,Px _ _ _⟩ (.inr (Px _ _ _)) (fun j _ hj=>Pw _ _ hj),h _ _ _ _ om om (.inr (Nat.le_refl _)) ⟨[],by rw[Px,List.append_nil]⟩ (.inl ?_) (fun j hn hj=>Pw _ _ om)⟩
 rw[Pw _ _ om];exact hH
attribute [go_sem] AppDM_nil AppDM_osl AppOM_some
mutual
inductive NilA (nw:List Nat):AV→AV→Prop
 | rf {a:AV}:NilA nw a a
 | nl {k:Nat}:k∈nw→NilA nw .nilsl (.osl k 0 0 0)
 | agg {l m:List AV}:NilL nw l m→NilA nw (.agg l) (.agg m)
 | tup {l m:List AV}:NilL nw l m→NilA nw (.tup l) (.tup m)
inductive NilL (nw:List Nat):List AV→List AV→Prop
 | nil:NilL nw [] []
 | cons {a b:AV} {l m:List AV}:NilA nw a b→NilL nw l m→NilL nw (a::l) (b::m)
end
mutual
theorem NilA.wide {nw nw':List Nat} (h:∀k∈nw,k∈nw'):∀{a b:AV},NilA nw a b→NilA nw' a b
 | _,_,.rf=> .rf
 | _,_,.nl hk=> .nl (h _ hk)
 | _,_,.agg hl=> .agg (hl.wide h)
 | _,_,.tup hl=> .tup (hl.wide h)
theorem NilL.wide {nw nw':List Nat} (h:∀k∈nw,k∈nw'):∀{a b:List AV},NilL nw a b→NilL nw' a b
 | _,_,.nil=> .nil
 | _,_,.cons h1 h2=> .cons (h1.wide h) (h2.wide h)
end
theorem NilL.len {nw:List Nat}:∀{a b:List AV},NilL nw a b→a.length=b.length
 | _,_,.nil=>rfl
 | _,_,.cons _ h=>by simp[h.len]
mutual
theorem NilA.sz {nw:List Nat}:∀{a b:AV},NilA nw a b→a.sz=b.sz
 | _,_,.rf=>rfl
 | _,_,.nl _=>rfl
 | _,_,.agg h=>by simp only[AV.sz];exact h.szs
 | _,_,.tup _=>rfl
theorem NilL.szs {nw:List Nat}:∀{a b:List AV},NilL nw a b→AV.szs a=AV.szs b
 | _,_,.nil=>rfl
 | _,_,.cons h1 h2=>by simp only[AV.szs];rw[h1.sz,h2.szs]
end
theorem NilL.szAll {nw:List Nat} {e:Nat}:∀{a b:List AV},NilL nw a b→(∀x∈a,x.sz=e)→∀x∈b,x.sz=e
 | _,_,.nil,_,x,hx=>by simp at hx
 | _,_,.cons h1 h2,h,x,hx=>by
   rcases List.mem_cons.1 hx with rfl | hx
   ·rw[←h1.sz];exact h _ osi
   ·exact h2.szAll (fun y hy=>h y (by simp[hy])) x hx
def NwOK (c:Ctx) (nw:List Nat):Prop:=∀k∈nw,c.ρ k 0=some .nil
mutual
theorem NilA.rel {c:Ctx} {nw:List Nat} (hn:NwOK c nw):∀{a b:AV},NilA nw a b→∀{m:Bool} {cs:List Value},Rel c a m cs→Rel c b m cs
 | _,_,.rf,_,_,h=>h
 | _,_,.nl hk,m,cs,h=>by simp only[Rel]at h ⊢;exact⟨.nil,hn _ hk,osi,osi,h⟩
 | _,_,.agg hl,true,cs,h=>by simp only[Rel]at h ⊢;exact hl.relF hn h
 | _,_,.agg hl,false,cs,h=>by simp only[Rel]at h ⊢;obtain⟨arr,e,h⟩:=h;exact⟨arr,e,hl.relF hn h⟩
 | _,_,.tup hl,true,cs,h=>by simp only[Rel]at h
 | _,_,.tup hl,false,cs,h=>by simp only[Rel]at h ⊢;obtain⟨arr,e,h⟩:=h;exact⟨arr,e,hl.relT hn h⟩
theorem NilL.relF {c:Ctx} {nw:List Nat} (hn:NwOK c nw):∀{a b:List AV},NilL nw a b→∀{cs:List Value},RelF c a cs→RelF c b cs
 | _,_,.nil,_,h=>h
 | _,_,.cons h1 h2,cs,h=>by
   simp only[RelF]at h ⊢
   obtain⟨c1,c2,e,q1,q2⟩:=h
   exact⟨c1,c2,e,h1.rel hn q1,h2.relF hn q2⟩
theorem NilL.relT {c:Ctx} {nw:List Nat} (hn:NwOK c nw):∀{a b:List AV},NilL nw a b→∀{cs:List Value},RelT c a cs→RelT c b cs
 | _,_,.nil,_,h=>h
 | _,_,.cons h1 h2,cs,h=>by
   simp only[RelT]at h ⊢
   obtain⟨v,r,e,q1,q2⟩:=h
   exact⟨v,r,e,h1.rel hn q1,h2.relT hn q2⟩
end
mutual
inductive OwnF (H:Heap):AV→AV→List Nat→Prop
 | nk {a:AV}:a.nk→OwnF H a a []
 | osl {k ver len e:Nat} {els ys:List AV} {ks:List Nat}:H k=some (.arr ver e els)→len≤els.length→YX H (els.take len) ys ks→OwnF H (.osl k ver 0 len) (.sl e ys) (k::ks)
 | agg {fs gs:List AV} {ks:List Nat}:YX H fs gs ks→OwnF H (.agg fs) (.agg gs) ks
 | tup {fs gs:List AV} {ks:List Nat}:YX H fs gs ks→OwnF H (.tup fs) (.tup gs) ks
inductive YX (H:Heap):List AV→List AV→List Nat→Prop
 | nil:YX H [] [] []
 | cons {a b:AV} {l m:List AV} {ks js:List Nat}:OwnF H a b ks→YX H l m js→YX H (a::l) (b::m) (ks++js)
end
mutual
theorem OwnF.own {H:Heap}:∀{a b:AV} {ks:List Nat},OwnF H a b ks→Own H a b ks
 | _,_,_,.nk h=> .nk h
 | _,_,_,.osl h1 h2 h3=> .osl h1 h2 h3.own
 | _,_,_,.agg h=> .agg h.own
 | _,_,_,.tup h=> .tup h.own
theorem YX.own {H:Heap}:∀{a b:List AV} {ks:List Nat},YX H a b ks→OwnL H a b ks
 | _,_,_,.nil=> .nil
 | _,_,_,.cons h1 h2=> .cons h1.own h2.own
end
mutual
theorem OwnF.frame {H H':Heap}:∀{a b:AV} {ks:List Nat},OwnF H a b ks→(∀k∈ks,H' k=H k)→OwnF H' a b ks
 | _,_,_,.nk h,_=> .nk h
 | _,_,_,.osl h1 h2 h3,hk=> .osl ((hk _ osi).trans h1) h2 (YX.frame h3 fun k h=>hk k (by simp[h]))
 | _,_,_,.agg h,hk=> .agg (YX.frame h hk)
 | _,_,_,.tup h,hk=> .tup (YX.frame h hk)
theorem YX.frame {H H':Heap}:∀{a b:List AV} {ks:List Nat},YX H a b ks→(∀k∈ks,H' k=H k)→YX H' a b ks
 | _,_,_,.nil,_=> .nil
 | _,_,_,.cons h1 h2,hk=> .cons (OwnF.frame h1 fun k h=>hk k (by simp[h])) (YX.frame h2 fun k h=>hk k (by simp[h]))
end
def Gh (H:Heap) (n:Nat) (H':Heap) (n':Nat) (nw:List Nat):Prop:=∀c w,Sim c H n w→∃c',Step c H w c' H' n' w∧NwOK c' nw
theorem NwOK.le {c c':Ctx} {nw:List Nat} (h:NwOK c nw) (hl:c.le c'):NwOK c' nw:=fun k hk=>hl.ρ (h k hk)
theorem Gh.refl (H:Heap) (n:Nat):Gh H n H n []:=fun c w hs=>⟨c,.refl hs,fun k hk=>by cases hk⟩
theorem Gh.trans {H H1 H2:Heap} {n n1 n2:Nat} {a b:List Nat} (h:Gh H n H1 n1 a) (h':Gh H1 n1 H2 n2 b):Gh H n H2 n2 (a++b):=fun c w hs=>by
 obtain⟨c1,s1,w1⟩:=h c w hs
 obtain⟨c2,s2,w2⟩:=h' c1 w s1.sim
 exact⟨c2,s1.trans s2,fun k hk=>by rcases List.mem_append.1 hk with hk | hk;exact w1.le s2.le k hk;exact w2 k hk⟩
theorem Gh.nil (H:Heap) (n e:Nat):Gh H n (H.put n (some (.arr 0 e []))) (n+1) [n]:=fun c w hs=>⟨_,PR hs e,fun k hk=>by rw[List.mem_singleton.1 hk];exact Py⟩
theorem Gh.retell {H H1:Heap} {n n1:Nat} {nw:List Nat} (h:Gh H n H1 n1 nw) {k ver e:Nat} {els els':List AV} (hk:H1 k=some (.arr ver e els)) (hl:NilL nw els els'):Gh H n (H1.put k (some (.arr ver e els'))) n1 nw:=fun c w hs=>by
 obtain⟨c1,s1,w1⟩:=h c w hs
 exact⟨c1,s1.trans (Step.retell s1.sim hk (fun ds hd=>hl.relF w1 hd) hl.len.symm hl.szAll),w1⟩
theorem NilL.app {nw:List Nat}:∀{a b:List AV},NilL nw a b→∀(l:List AV),NilL nw (a++l) (b++l)
 | _,_,.nil,l=>by
   induction l with
   | nil=>exact .nil
   | cons x l ih=>exact .cons .rf ih
 | _,_,.cons h1 h2,l=> .cons h1 (h2.app l)
structure FlS (H:Heap) (n:Nat) (ks:List Nat) (H':Heap) (n':Nat) (ks':List Nat):Prop where
 le:n≤n'
 nd:ks'.Nodup
 sub:∀k∈ks',k∈ks∨(n≤k∧k<n')
 out:∀k,k<n→k∉ks→H' k=H k
mutual
theorem Own.full {H:Heap}:∀{a b:AV} {ks:List Nat},Own H a b ks→∀(H0:Heap) (n:Nat),ks.Nodup→(∀k∈ks,H0 k=H k∧k<n)→∃a' H' n' ks' nw,Gh H0 n H' n' nw∧NilA nw a a'∧OwnF H' a' b ks'∧FlS H0 n ks H' n' ks'
 | a,_,_,.nk h,H0,n,_,_=>⟨a,H0,n,[],[],.refl _ _,.rf,.nk h,Nat.le_refl _,List.nodup_nil,(fun k hk=>by cases hk),fun _ _ _=>rfl⟩
 | _,_,_,.nilsl (e:=e),H0,n,_,_=>⟨.osl n 0 0 0,_,_,[n],[n],.nil H0 n e,.nl osi,.osl (Px _ _ _) (Nat.le_refl _) .nil,om,osi,(fun k hk=> .inr (by have:=List.mem_singleton.1 hk;omega)),fun k hk _=>Pw _ _ om⟩
 | _,_,_,.osl (k:=k) (ver:=ver) (len:=len) (e:=e) (els:=els) (ys:=ys) (ks:=ks) h1 h2 h3,H0,n,hd,hk=>by
   obtain⟨hkn,hd2⟩:=List.nodup_cons.1 hd
   obtain⟨l',H',n',ks',nw,g,hl,ho,hf⟩:=OwnL.full h3 H0 n hd2 fun j hj=>hk j (by simp[hj])
   have hk0:=hk k osi
   have hkH:H' k=some (.arr ver e els):=(hf.out k hk0.2 hkn).trans (hk0.1.trans h1)
   have hl2:=hl.app (els.drop len)
   rw[List.take_append_drop]at hl2
   have hk':k∉ks':=fun h=>by rcases hf.sub k h with h | h;exact hkn h;omega
   have hll:l'.length=len:=by rw[←hl.len,List.length_take];omega
   refine⟨.osl k ver 0 len,H'.put k (some (.arr ver e (l'++els.drop len))),n',k::ks',nw,g.retell hkH hl2,.rf,.osl (Px _ _ _) (by rw[List.length_append];omega) ?_,hf.le,List.nodup_cons.2 ⟨hk',hf.nd⟩,?_,?_⟩
   ·rw[List.take_left' hll]
    exact ho.frame fun j hj=>Pw _ _ (fun e=>hk' (e▸hj))
   ·intro j hj
    rcases List.mem_cons.1 hj with rfl | hj
    ·exact .inl osi
    ·rcases hf.sub j hj with h | h
     ·exact .inl (by simp[h])
     ·exact .inr h
   ·intro j hj hn
    rw[Pw _ _ (fun e=>hn (by simp[e]))]
    exact hf.out j hj fun h=>hn (by simp[h])
 | _,_,_,.agg h,H0,n,hd,hk=>by
   obtain⟨l',H',n',ks',nw,g,hl,ho,hf⟩:=OwnL.full h H0 n hd hk
   exact⟨.agg l',H',n',ks',nw,g,.agg hl,.agg ho,hf⟩
 | _,_,_,.tup h,H0,n,hd,hk=>by
   obtain⟨l',H',n',ks',nw,g,hl,ho,hf⟩:=OwnL.full h H0 n hd hk
   exact⟨.tup l',H',n',ks',nw,g,.tup hl,.tup ho,hf⟩
theorem OwnL.full {H:Heap}:∀{a b:List AV} {ks:List Nat},OwnL H a b ks→∀(H0:Heap) (n:Nat),ks.Nodup→(∀k∈ks,H0 k=H k∧k<n)→∃a' H' n' ks' nw,Gh H0 n H' n' nw∧NilL nw a a'∧YX H' a' b ks'∧FlS H0 n ks H' n' ks'
 | _,_,_,.nil,H0,n,_,_=>⟨[],H0,n,[],[],.refl _ _,.nil,.nil,Nat.le_refl _,List.nodup_nil,(fun k hk=>by cases hk),fun _ _ _=>rfl⟩
 | _,_,_,.cons (ks:=ks) (js:=js) h1 h2,H0,n,hd,hk=>by
   obtain⟨d1,d2,d3⟩:=List.nodup_append.1 hd
   obtain⟨a',H1,n1,ks1,nw1,g1,hl1,ho1,hf1⟩:=Own.full h1 H0 n d1 fun j hj=>hk j (by simp[hj])
   obtain⟨l',H2,n2,ks2,nw2,g2,hl2,ho2,hf2⟩:=OwnL.full h2 H1 n1 d2 fun j hj=>by
     have hj0:=hk j (by simp[hj])
     have hjk:j∉ks:=fun h=>d3 j h j hj rfl
     exact⟨(hf1.out j hj0.2 hjk).trans hj0.1,by have:=hf1.le;omega⟩
   have hkeep:∀j∈ks1,H2 j=H1 j:=fun j hj=>by
     rcases hf1.sub j hj with h | h
     ·have hj0:=hk j (by simp[h])
      exact hf2.out j (by have:=hf1.le;omega) fun h9=>d3 j h j h9 rfl
     ·refine hf2.out j h.2 fun h9=> ?_
      have:=(hk j (by simp[h9])).2
      omega
   refine⟨a'::l',H2,n2,ks1++ks2,nw1++nw2,g1.trans g2,.cons (hl1.wide fun k h=>by simp[h]) (hl2.wide fun k h=>by simp[h]),.cons (ho1.frame hkeep) ho2,by have:=hf1.le;have:=hf2.le;omega,?_,?_,?_⟩
   ·refine List.nodup_append.2 ⟨hf1.nd,hf2.nd,fun x hx y hy e=> ?_⟩
    subst e
    rcases hf1.sub x hx with h | h
    ·rcases hf2.sub x hy with h9 | h9
     ·exact d3 x h x h9 rfl
     ·have:=(hk x (by simp[h])).2;have:=hf1.le;omega
    ·rcases hf2.sub x hy with h9 | h9
     ·have:=(hk x (by simp[h9])).2;omega
     ·omega
   ·intro k hk2
    rcases List.mem_append.1 hk2 with h | h
    ·rcases hf1.sub k h with h | h
     ·exact .inl (by simp[h])
     ·exact .inr (by have:=hf2.le;omega)
    ·rcases hf2.sub k h with h | h
     ·exact .inl (by simp[h])
     ·exact .inr (by have:=hf1.le;omega)
   ·intro k hkn hkk
    have hkk':k∉ks∧k∉js:=⟨fun h=>hkk (by simp[h]),fun h=>hkk (by simp[h])⟩
    rw[hf2.out k (by have:=hf1.le;omega) hkk'.2]
    exact hf1.out k hkn hkk'.1
end
theorem Zk.full {P : Program} {f : FuncId} {args : List AV} {H : Heap} {n : Nat} {K K' : ARes → Heap → Nat → Prop} (h : Zk P f args H n K)
   (V:∀res H1 n1,K res H1 n1→∃r b ks,res= .val r∧Own H1 r b ks∧ks.Nodup∧(∀k∈ks,k<n1)∧∀r' H2 n2 ks',OwnF H2 r' b ks'→FlS H1 n1 ks H2 n2 ks'→K' (.val r') H2 n2):Zk P f args H n K':=by
 intro c w vs hs hr
 refine(h c w vs hs hr).mono ?_
 rintro e w' ⟨res,c',H',n',hk,hst,hm⟩
 obtain⟨r,b,ks,rfl,ho,hd,hlt,hall⟩:=V _ _ _ hk
 obtain⟨r',H2,n2,ks',nw,g,hl,ho2,hf⟩:=ho.full H' n' hd fun k hk=>⟨rfl,hlt k hk⟩
 obtain⟨c2,s2,w2⟩:=g c' w' hst.sim
 refine⟨.val r',c2,H2,n2,hall r' H2 n2 ks' ho2 hf,hst.trans s2,?_⟩
 cases e with
 | returned v=>exact hl.rel w2 (Rel.mono s2.le _ _ _ hm)
 | _=>exact hm.elim
end Go.Sx
set_option maxRecDepth 10000
namespace Go.Proofs.YtkmkbndcekklmaaGreatDoor
open Go Go.Sx Go.Rt Go.Proofs
structure BL where
 k:Nat
 v:Nat
 l:Nat
instance:Inhabited BL:=⟨⟨0,0,0⟩⟩
def BL.av (s:BL):AV:= .osl s.k s.v 0 s.l
def mkB (i:Nat):AV:= .int .u8 ((1+i%250:Nat):Int)
def tlB (i:Nat):AV:= .int .u8 ((251+i%5:Nat):Int)
theorem markW (i:Nat) (h:i<4611686018427387904):IntKind.u8.wrap (IntKind.i64.wrap (1+(i:Int).tmod 250))=((1+i%250:Nat):Int):=by
 have h1:(i:Int).tmod 250=((i%250:Nat):Int):=by rw[Int.tmod_eq_emod_of_nonneg om];omega
 rw[h1,w64 om om,IntKind.wrap_u8]
 omega
theorem tailW (i:Nat) (h:i<4611686018427387904):IntKind.u8.wrap (IntKind.i64.wrap (251+(i:Int).tmod 5))=((251+i%5:Nat):Int):=by
 have h1:(i:Int).tmod 5=((i%5:Nat):Int):=by rw[Int.tmod_eq_emod_of_nonneg om];omega
 rw[h1,w64 om om,IntKind.wrap_u8]
 omega
def Mk (H:Heap) (k v e:Nat) (m t:AV) (n a:Nat):Prop:=∃els,H k=some (.arr v e els)∧n+a≤els.length∧∀j,j<n+a→nth els j=if j<n then m else t
theorem Mk.le {H:Heap} {k v e:Nat} {m t:AV} {n a b:Nat} (h:Mk H k v e m t n a) (hb:b≤a):Mk H k v e m t n b:=by
 obtain⟨els,h1,h2,h3⟩:=h
 exact⟨els,h1,om,fun j hj=>h3 j om⟩
theorem Mk.frame {H H':Heap} {k v e:Nat} {m t:AV} {n a:Nat} (h:Mk H k v e m t n a) (hk:H' k=H k):Mk H' k v e m t n a:=by
 obtain⟨els,h1,h2,h3⟩:=h
 exact⟨els,hk.trans h1,h2,h3⟩
theorem VI {a b:List AV} {j:Nat} (h:j<a.length):nth (a++b) j=nth a j:=by simp[nth,List.getD,List.getElem?_append_left h]
theorem U2 {a b:List AV} {j:Nat} (h:a.length≤j):nth (a++b) j=nth b (j-a.length):=by simp[nth,List.getD,List.getElem?_append_right h]
theorem Kn {a:List AV} {i j:Nat} (h:j<i):nth (a.take i) j=nth a j:=by simp[nth,List.getD,List.getElem?_take_of_lt h]
theorem nth_drop (a:List AV) (i j:Nat):nth (a.drop i) j=nth a (i+j):=by simp[nth,List.getD,List.getElem?_drop]
theorem nth_rep {a:AV} {n j:Nat} (h:j<n):nth (List.replicate n a) j=a:=by simp[nth,List.getD,h]
theorem Mk.full {H:Heap} {k v e:Nat} {m t:AV} {n:Nat} {X:List AV} (h:H k=some (.arr v e (List.replicate n m++X.drop n))) (hn:n≤X.length):Mk H k v e m t n 0:=
 ⟨_,h,osi,fun j hj=>by rw[VI (by simpa using hj),nth_rep om,if_pos om]⟩
theorem Mk.new {H H2:Heap} {k v e gk gv:Nat} {m t:AV} {n c b:Nat} {els rest:List AV} (hH:H k=some (.arr v e els)) (hM:Mk H k v e m t n c) (h2:H2 gk=some (.arr gv e (els.take (n+c)++List.replicate b t++rest))):Mk H2 gk gv e m t n (c+b):=by
 obtain⟨els',h1,h3,h4⟩:=hM
 rw[hH]at h1
 cases h1
 have hl:(els.take (n+c)).length=n+c:=by rw[List.length_take];omega
 refine⟨_,h2,by simp[hl];omega,fun j hj=> ?_⟩
 rw[List.append_assoc]
 by_cases hj2:j<n+c
 ·rw[VI om,Kn hj2,h4 j hj2]
 ·rw[U2 om,VI oz,nth_rep om,if_neg om]
theorem Mk.stay {H H2 : Heap} {k v e : Nat} {m t : AV} {n a c b : Nat} {els : List AV} (hH : H k = some (.arr v e els)) (hc : Mk H k v e m t n c) (ha : Mk H k v e m t n a)
   (h2:H2 k=some (.arr v e (els.take (n+c)++List.replicate b t++els.drop (n+c+b)))):Mk H2 k v e m t n a:=by
 obtain⟨els',h1,h3,h4⟩:=ha
 rw[hH]at h1;cases h1
 obtain⟨els',h1,h5,h6⟩:=hc
 rw[hH]at h1;cases h1
 have hl:(els.take (n+c)).length=n+c:=by rw[List.length_take];omega
 refine⟨_,h2,by simp[hl];omega,fun j hj=> ?_⟩
 rw[List.append_assoc]
 by_cases hj2:j<n+c
 ·rw[VI om,Kn hj2,h6 j hj2]
 ·rw[U2 om]
  by_cases hj3:j<n+c+b
  ·rw[VI oz,nth_rep om,if_neg om]
  ·rw[U2 oz,nth_drop,←h4 j hj]
   congr 1
   simp[hl];omega
theorem Kr {k : AV → Heap → Nat → Prop} {H : Heap} {n kk ver e : Nat} {m t : AV} {l c b : Nat} {els : List AV} (hkk : kk < n) (hH : H kk = some (.arr ver e els)) (hM : Mk H kk ver e m t l c)
   (h:∀gk gv H2 n2,n≤n2→gk<n2→(gk=kk∨n≤gk)→Mk H2 gk gv e m t l (c+b)→(∀a,Mk H kk ver e m t l a→Mk H2 kk ver e m t l a)→(∀j,j<n→j≠kk→H2 j=H j)→k (.osl gk gv 0 (l+c+b)) H2 n2):
   AppKM k H n kk ver e (l+c) els (List.replicate b t):=by
 have hlen:(List.replicate b t).length=b:=osi
 refine AppKM.all hkk (fun gk gv H2 n2 h1 h2 h3 ⟨rest,h4⟩ h5 h6=> ?_) hH
 rw[hlen]at h5 ⊢
 refine h gk gv H2 n2 h1 h2 h3 (hM.new hH h4) (fun a ha=> ?_) h6
 rcases h5 with h5 | h5
 ·exact ha.frame (h5.trans hH.symm)
 ·exact Mk.stay hH hM ha h5
theorem fill_step {mk:AV} {X:List AV} {j:Nat} (h:j<X.length):(List.replicate j mk++X.drop j).set j mk=List.replicate (j+1) mk++X.drop (j+1):=by
 rw[List.set_append_right _ _ osi,List.length_replicate,Nat.sub_self,List.drop_eq_getElem_cons h,List.set_cons_zero,List.replicate_succ',List.append_assoc];rfl
theorem NH {mk:AV} {X:List AV} {j:Nat} (h:j≤X.length):(List.replicate j mk++X.drop j).length=X.length:=oz
theorem fill_nth {mk:AV} {X:List AV} {j:Nat}:nth (List.replicate j mk++X.drop j) j=nth X j:=by
 rw[U2 osi,nth_drop];simp
def Bl0 (H:Heap) (e:Nat) (s:BL):Prop:=∃X,H s.k=some (.arr s.v e X)∧s.l≤X.length∧∀j,j<s.l→(nth X j).sz=e
def cnt (r:Nat):Nat:=if r=0 then 1 else if r=1 then 2 else 70
structure Gx (H:Heap) (lo hi:Nat) (s:BL) (i:Nat) (x:BL) (c:Nat):Prop where
 key:x.k=s.k∨lo≤x.k
 lt:x.k<hi
 l:x.l=s.l+c
 mrk:Mk H x.k x.v 1 (mkB i) (tlB i) s.l c
theorem Gx.frame {H H':Heap} {lo hi hi':Nat} {s:BL} {i:Nat} {x:BL} {c:Nat} (h:Gx H lo hi s i x c) (hk:H' x.k=H x.k) (hh:hi≤hi'):Gx H' lo hi' s i x c:=⟨h.key,Nat.lt_of_lt_of_le h.lt hh,h.l,h.mrk.frame hk⟩
structure Fl (bs:List BL) (H0:Heap) (lo kG:Nat) (i:Nat) (ms:List BL) (H:Heap) (n:Nat):Prop where
 len:ms.length=3*i
 mrk:∀j,j<bs.length→Mk H (bs.getD j default).k (bs.getD j default).v 1 (mkB j) (tlB j) (bs.getD j default).l 0
 g:∀k,k<3*i→Gx H lo n (bs.getD (k/3) default) (k/3) (ms.getD k default) (cnt (k%3))
 out:∀k,k<lo→k≠kG→k∉bs.map (·.k)→H k=H0 k
 le:lo≤n
theorem XY {bs:List BL} {j:Nat} (h:j<bs.length):bs.getD j default∈bs:=by simp[List.getD,List.getElem?_eq_getElem h]
theorem bl_ne {bs:List BL} (hd:(bs.map (·.k)).Nodup) {i j:Nat} (hi:i<bs.length) (hj:j<bs.length) (h:i≠j):(bs.getD i default).k≠(bs.getD j default).k:=fun e=>by
 have h1:(bs.map (·.k))[i]'(by simpa using hi)=(bs.map (·.k))[j]'(by simpa using hj):=by simpa [List.getD,List.getElem?_eq_getElem hi,List.getElem?_eq_getElem hj]using e
 exact h ((List.getElem_inj hd).1 h1)
theorem getD_app3 {ms:List BL} {x y z:BL} {i k:Nat} (h:ms.length=3*i):(ms++[x,y,z]).getD k default=if k<3*i then ms.getD k default else if k=3*i then x else if k=3*i+1 then y else if k=3*i+2 then z else default:=by
 by_cases h1:k<3*i
 ·rw[if_pos h1];simp[List.getD,List.getElem?_append_left (show k<ms.length by omega)]
 ·rw[if_neg h1]
  simp only[List.getD]
  rw[List.getElem?_append_right om,h]
  by_cases h2:k=3*i
  ·subst h2;simp
  by_cases h3:k=3*i+1
  ·subst h3;simp
  by_cases h4:k=3*i+2
  ·subst h4;simp
  rw[if_neg h2,if_neg h3,if_neg h4,List.getElem?_eq_none oz]
  rfl
theorem Fl.step {bs : List BL} {H0 : Heap} {lo kG i : Nat} {ms : List BL} {H1 H3 : Heap} {n1 n3 : Nat} (h : Fl bs H0 lo kG i ms H1 n1) (hd : (bs.map (·.k)).Nodup) (hlo : ∀ s ∈ bs, s.k < lo ∧ s.k ≠ kG) (hG : kG < lo) (hi : i < bs.length) (hn : n1 ≤ n3)
   {x y z:BL} (hx:Gx H3 n1 n3 (bs.getD i default) i x 1) (hy:Gx H3 n1 n3 (bs.getD i default) i y 2) (hz:Gx H3 n1 n3 (bs.getD i default) i z 70)
   (hm:Mk H3 (bs.getD i default).k (bs.getD i default).v 1 (mkB i) (tlB i) (bs.getD i default).l 0) (hH:∀j,j<n1→j≠(bs.getD i default).k→j≠kG→H3 j=H1 j):
   Fl bs H0 lo kG (i+1) (ms++[x,y,z]) H3 n3:=by
 have hle:=h.le
 have up:∀{w:BL} {c:Nat},Gx H3 n1 n3 (bs.getD i default) i w c→Gx H3 lo n3 (bs.getD i default) i w c:=fun hw=>⟨hw.key.imp id fun h=>om,hw.lt,hw.l,hw.mrk⟩
 refine⟨by rw[List.length_append,h.len];simp;omega,fun j hj=> ?_,fun k hk=> ?_,fun k hk hg hb=> ?_,om⟩
 ·by_cases e:j=i
  ·subst e;exact hm
  ·have:=hlo _ (XY hj)
   exact(h.mrk j hj).frame (hH _ om (bl_ne hd hj hi e) this.2)
 ·rw[getD_app3 h.len]
  by_cases h1:k<3*i
  ·rw[if_pos h1]
   have hg:=h.g k h1
   have hk3:k/3<bs.length:=om
   have h9:=hlo _ (XY hk3)
   have h8:=hlo _ (XY hi)
   refine hg.frame (hH _ hg.lt (fun e=> ?_) (fun e=> ?_)) hn
   ·rcases hg.key with h2 | h2
    ·exact bl_ne hd hk3 hi om (h2.symm.trans e)
    ·omega
   ·rcases hg.key with h2 | h2
    ·exact h9.2 (h2.symm.trans e)
    ·omega
  ·rw[if_neg h1]
   by_cases h2:k=3*i
   ·subst h2
    rw[if_pos rfl,show 3*i/3=i by omega,show 3*i%3=0 by omega];exact up hx
   by_cases h3:k=3*i+1
   ·subst h3
    rw[if_neg om,if_pos rfl,show(3*i+1)/3=i by omega,show(3*i+1)%3=1 by omega];exact up hy
   have h4:k=3*i+2:=om
   subst h4
   rw[if_neg om,if_neg om,if_pos rfl,show(3*i+2)/3=i by omega,show(3*i+2)%3=2 by omega];exact up hz
 ·rw[hH k om (fun e=>hb (by rw[e];exact List.mem_map.2 ⟨_,XY hi,rfl⟩)) hg]
  exact h.out k hk hg hb
theorem BL.av_sz (s:BL):s.av.sz=1:=rfl
theorem BL.av_mo (s:BL):s.av.memOK=true:=rfl
structure CO where
 fam:Int
 q:BL
 ts:Int
 v:BL
instance:Inhabited CO:=⟨⟨0,default,0,default⟩⟩
def CO.av (c:CO):AV:= .agg [.int .i64 c.fam,c.q.av,.int .i64 c.ts,c.v.av]
structure RO where
 r:BL
 kc:Nat
 vc:Nat
 cs:List CO
instance:Inhabited RO:=⟨⟨default,0,0,[]⟩⟩
def RO.av (r:RO):AV:= .agg [r.r.av,.osl r.kc r.vc 0 r.cs.length]
structure PO where
 kR:Nat
 vR:Nat
 rs:List RO
 t:BL
 done:Bool
def PO.av (p:PO):AV:= .agg [.osl p.kR p.vR 0 p.rs.length,p.t.av,.bool p.done]
def blsC (c:CO):List BL:=[c.q,c.v]
def blsR (r:RO):List BL:=r.r::r.cs.flatMap blsC
def PO.bls (p:PO):List BL:=p.t::p.rs.flatMap blsR
def RO.ks (r:RO):List Nat:=r.r.k::r.kc::(r.cs.flatMap blsC).map (·.k)
def PO.ks (p:PO):List Nat:=p.kR::(p.rs.flatMap RO.ks++[p.t.k])
theorem CO.av_sz (c:CO):c.av.sz=4:=rfl
theorem RO.av_sz (c:RO):c.av.sz=2:=rfl
theorem PO.av_sz (c:PO):c.av.sz=3:=rfl
structure PO.At (H:Heap) (p:PO):Prop where
 rows:∃els,H p.kR=some (.arr p.vR 2 els)∧p.rs.length≤els.length∧∀i,i<p.rs.length→nth els i=(p.rs.getD i default).av
 cells:∀r∈p.rs,∃els,H r.kc=some (.arr r.vc 4 els)∧r.cs.length≤els.length∧∀i,i<r.cs.length→nth els i=(r.cs.getD i default).av
theorem PO.At.frame {H H':Heap} {p:PO} (h:p.At H) (h1:H' p.kR=H p.kR) (h2:∀r∈p.rs,H' r.kc=H r.kc):p.At H':=
 ⟨by obtain⟨e,a,b⟩:=h.rows;exact⟨e,h1.trans a,b⟩,fun r hr=>by obtain⟨e,a,b⟩:=h.cells r hr;exact⟨e,(h2 r hr).trans a,b⟩⟩
theorem perm3 {a b c:List Nat} (x y:Nat):(x::y::(a++(b++c))).Perm ((y::b)++(x::(a++c))):=by
 have h1:(a++(b++c)).Perm (b++(a++c)):=by
   rw[←List.append_assoc,←List.append_assoc];exact List.Perm.append_right _ List.perm_append_comm
 refine(List.Perm.swap y x _).trans ?_
 rw[List.cons_append]
 refine List.Perm.cons y ?_
 exact(List.Perm.cons x h1).trans List.perm_middle.symm
theorem rs_perm:∀(rs:List RO),(rs.flatMap RO.ks).Perm (rs.map (·.kc)++(rs.flatMap blsR).map (·.k))
 | []=> .refl _
 | r::rs=>by
   rw[List.flatMap_cons,List.flatMap_cons,List.map_cons,List.map_append]
   have h1:=(rs_perm rs).append_left (RO.ks r)
   refine h1.trans ?_
   simp only[RO.ks,blsR,List.map_cons,List.cons_append]
   exact perm3 _ _
theorem PO.perm (p:PO):p.ks.Perm (p.kR::(p.rs.map (·.kc)++p.bls.map (·.k))):=by
 unfold PO.ks PO.bls
 refine List.Perm.cons _ ?_
 rw[List.map_cons]
 refine((rs_perm p.rs).append_right _).trans ?_
 rw[List.append_assoc]
 refine List.Perm.append_left _ ?_
 exact(List.perm_append_comm (l₁:=(p.rs.flatMap blsR).map (·.k)) (l₂:=[p.t.k]))
theorem OwnF.of_nk {H:Heap} {a b:AV} {ks:List Nat} (h:OwnF H a b ks) (hb:b.nk):a=b∧ks=[]:=by
 cases h with
 | nk h=>exact⟨rfl,rfl⟩
 | osl _ _ _=>exact hb.elim
 | agg _=>exact hb.elim
 | tup _=>exact hb.elim
theorem YX.of_nk {H:Heap}:∀{a b:List AV} {ks:List Nat},YX H a b ks→(∀x∈b,x.nk)→a=b∧ks=[]
 | _,_,_,.nil,_=>⟨rfl,rfl⟩
 | _,_,_,.cons h1 h2,h=>by
   obtain⟨e1,e2⟩:=OwnF.of_nk h1 (h _ osi)
   obtain⟨e3,e4⟩:=YX.of_nk h2 fun x hx=>h x (by simp[hx])
   exact⟨by rw[e1,e3],by rw[e2,e4];rfl⟩
theorem PS {H:Heap} {a:AV} {b:List UInt8} {ks:List Nat} (h:OwnF H a (bys b) ks):∃s:BL,a=s.av∧Bl0 H 1 s∧s.l=b.length∧ks=[s.k]:=by
 generalize hb:bys b=v at h
 cases h with
 | nk h=>rw[←hb]at h;exact h.elim
 | agg _=>cases hb
 | tup _=>cases hb
 | @osl k ver len e els ys ks h1 h2 h3=>
   obtain⟨rfl,rfl⟩:1=e∧b.map Zd=ys:=by simpa [bys]using hb
   obtain⟨e1,e2⟩:=YX.of_nk h3 (fun x hx=>by obtain⟨y,_,rfl⟩:=List.mem_map.1 hx;trivial)
   have hl:len=b.length:=by have:=congrArg List.length e1;rw[List.length_take,List.length_map]at this;omega
   refine⟨⟨k,ver,len⟩,rfl,⟨els,h1,h2,fun j hj=> ?_⟩,hl,by rw[e2]⟩
   rw[←Kn (i:=len) hj,e1]
   have:nth (b.map Zd) j=Zd (b.getD j default):=Zw Zd b j (by simpa [hl]using hj)
   rw[this];rfl
theorem OwnF.of_cel {H:Heap} {a:AV} {c:CelE} {ks:List Nat} (h:OwnF H a (Zp c) ks):∃o:CO,a=o.av∧o.fam=c.fam∧Bl0 H 1 o.q∧Bl0 H 1 o.v∧o.q.l=c.qual.length∧o.v.l=c.value.length∧ks=(blsC o).map (·.k):=by
 cases h with
 | nk h=>exact h.elim
 | agg h=>
   cases h with
   | cons h1 h=>cases h with
     | cons h2 h=>cases h with
       | cons h3 h=>cases h with
         | cons h4 h=>cases h with
           | nil=>
             obtain⟨rfl,rfl⟩:=OwnF.of_nk h1 trivial
             obtain⟨rfl,rfl⟩:=OwnF.of_nk h3 trivial
             obtain⟨q,rfl,q1,q2,rfl⟩:=PS h2
             obtain⟨v,rfl,v1,v2,rfl⟩:=PS h4
             exact⟨⟨c.fam,q,c.ts,v⟩,rfl,rfl,q1,v1,q2,v2,rfl⟩
def Mh (H:Heap) (B:Nat) (l:List BL):Prop:=∀s∈l,Bl0 H 1 s∧s.l≤B
theorem P8 {H:Heap} {B:Nat}:∀{l:List AV} {cs:List CelE} {ks:List Nat},YX H l (cs.map Zp) ks→(∀c∈cs,c.qual.length≤B∧c.value.length≤B)→∃os:List CO,l=os.map CO.av∧os.map (·.fam)=cs.map (·.fam)∧Mh H B (os.flatMap blsC)∧ks=(os.flatMap blsC).map (·.k)
 | _,[],_,.nil,_=>⟨[],rfl,rfl,(fun s hs=>by cases hs),rfl⟩
 | _,c::cs,_,.cons h1 h2,hB=>by
   obtain⟨o,rfl,f1,f2,f3,f4,f5,rfl⟩:=OwnF.of_cel h1
   obtain⟨os,rfl,g1,g2,rfl⟩:=P8 h2 fun c hc=>hB c (by simp[hc])
   have hb:=hB c osi
   refine⟨o::os,rfl,by rw[List.map_cons,List.map_cons,f1,g1],fun s hs=> ?_,by rw[List.flatMap_cons,List.map_append]⟩
   rw[List.flatMap_cons,List.mem_append]at hs
   rcases hs with hs | hs
   ·simp only[blsC,List.mem_cons,List.not_mem_nil,or_false]at hs
    rcases hs with rfl | rfl
    ·exact⟨f2,om⟩
    ·exact⟨f3,om⟩
   ·exact g2 s hs
theorem nth_mapd {α:Type} [Inhabited α] {els:List AV} {l:List α} {f:α→AV} (h:els.take l.length=l.map f) {i:Nat} (hi:i<l.length):nth els i=f (l.getD i default):=by
 rw[←Kn (i:=l.length) hi,h,Zw f l i hi]
theorem OwnF.of_row {H : Heap} {B : Nat} {a : AV} {r : RowE} {ks : List Nat} (h : OwnF H a (Zg r) ks) (hr : r.row.length ≤ B) (hB : ∀ c ∈ r.cells, c.qual.length ≤ B ∧ c.value.length ≤ B) :
   ∃o:RO,a=o.av∧o.cs.map (·.fam)=r.cells.map (·.fam)∧Mh H B (blsR o)∧(∃els,H o.kc=some (.arr o.vc 4 els)∧o.cs.length≤els.length∧∀i,i<o.cs.length→nth els i=(o.cs.getD i default).av)∧ks=o.ks:=by
 cases h with
 | nk h=>exact h.elim
 | agg h=>
   cases h with
   | cons h1 h=>cases h with
     | cons h2 h=>cases h with
       | nil=>
         obtain⟨s,rfl,s1,s2,rfl⟩:=PS h1
         generalize hv:AV.sl 4 (r.cells.map Zp)=v at h2
         cases h2 with
         | nk h=>rw[←hv]at h;exact h.elim
         | agg _=>cases hv
         | tup _=>cases hv
         | @osl k ver len e els ys ks g1 g2 g3=>
           obtain⟨rfl,rfl⟩:4=e∧r.cells.map Zp=ys:=by simpa using hv
           obtain⟨os,q1,q2,q3,rfl⟩:=P8 g3 hB
           have hl:len=os.length:=by have:=congrArg List.length q1;rw[List.length_take,List.length_map]at this;omega
           subst hl
           refine⟨⟨s,k,ver,os⟩,rfl,q2,fun x hx=> ?_,⟨els,g1,g2,fun i hi=>nth_mapd q1 hi⟩,by simp[RO.ks]⟩
           rcases List.mem_cons.1 hx with rfl | hx
           ·exact⟨s1,om⟩
           ·exact q3 x hx
theorem P7 {H : Heap} {B : Nat} : ∀ {l : List AV} {rs : List RowE} {ks : List Nat}, YX H l (rs.map Zg) ks → (∀ r ∈ rs, r.row.length ≤ B ∧ ∀ c ∈ r.cells, c.qual.length ≤ B ∧ c.value.length ≤ B) →
   ∃os:List RO,l=os.map RO.av∧os.map (fun o=>o.cs.map (·.fam))=rs.map (fun r=>r.cells.map (·.fam))∧Mh H B (os.flatMap blsR)∧(∀o∈os,∃els,H o.kc=some (.arr o.vc 4 els)∧o.cs.length≤els.length∧∀i,i<o.cs.length→nth els i=(o.cs.getD i default).av)∧ks=os.flatMap RO.ks
 | _,[],_,.nil,_=>⟨[],rfl,rfl,(fun s hs=>by cases hs),(fun s hs=>by cases hs),rfl⟩
 | _,r::rs,_,.cons h1 h2,hB=>by
   have hb:=hB r osi
   obtain⟨o,rfl,f1,f2,f3,rfl⟩:=OwnF.of_row h1 hb.1 hb.2
   obtain⟨os,rfl,g1,g2,g3,rfl⟩:=P7 h2 fun c hc=>hB c (by simp[hc])
   refine⟨o::os,rfl,by rw[List.map_cons,List.map_cons,f1,g1],fun s hs=> ?_,fun s hs=> ?_,by rw[List.flatMap_cons]⟩
   ·rw[List.flatMap_cons,List.mem_append]at hs
    rcases hs with hs | hs
    ·exact f2 s hs
    ·exact g2 s hs
   ·rcases List.mem_cons.1 hs with rfl | hs
    ·exact f3
    ·exact g3 s hs
theorem OwnF.of_page {H : Heap} {B : Nat} {a : AV} {z : PgE} {ks : List Nat} (h : OwnF H a (pgAV z) ks) (ht : z.token.length ≤ B) (hB : ∀ r ∈ z.rows, r.row.length ≤ B ∧ ∀ c ∈ r.cells, c.qual.length ≤ B ∧ c.value.length ≤ B) :
   ∃p:PO,a=p.av∧p.At H∧p.rs.map (fun o=>o.cs.map (·.fam))=z.rows.map (fun r=>r.cells.map (·.fam))∧Mh H B p.bls∧p.t.l=z.token.length∧ks=p.ks:=by
 cases h with
 | nk h=>exact h.elim
 | agg h=>
   cases h with
   | cons h1 h=>cases h with
     | cons h2 h=>cases h with
       | cons h3 h=>cases h with
         | nil=>
           obtain⟨rfl,rfl⟩:=OwnF.of_nk h3 trivial
           obtain⟨s,rfl,s1,s2,rfl⟩:=PS h2
           generalize hv:AV.sl 2 (z.rows.map Zg)=v at h1
           cases h1 with
           | nk h=>rw[←hv]at h;exact h.elim
           | agg _=>cases hv
           | tup _=>cases hv
           | @osl k ver len e els ys ks g1 g2 g3=>
             obtain⟨rfl,rfl⟩:2=e∧z.rows.map Zg=ys:=by simpa using hv
             obtain⟨os,q1,q2,q3,q4,rfl⟩:=P7 g3 hB
             have hl:len=os.length:=by have:=congrArg List.length q1;rw[List.length_take,List.length_map]at this;omega
             subst hl
             refine⟨⟨k,ver,os,s,z.done⟩,rfl,⟨⟨els,g1,g2,fun i hi=>nth_mapd q1 hi⟩,q4⟩,q2,fun x hx=> ?_,s2,by simp[PO.ks]⟩
             rcases List.mem_cons.1 hx with rfl | hx
             ·exact⟨s1,om⟩
             ·exact q3 x hx
end Go.Proofs.YtkmkbndcekklmaaGreatDoor
set_option maxRecDepth 10000
namespace Go.Proofs.YtkmkbndcekklmaaGreatDoor
open Go Go.Sx Go.Rt Go.Proofs Tryz
theorem fz_any {k ver e:Nat} (l:List AV):FzV k ver e l (.osl k ver 0 l.length) (.sl e l):=by
 have h:=FzV.osl (k:=k) (ver:=ver) (e:=e) (els:=l) (off:=0) (len:=l.length) osi
 rwa [List.drop_zero,List.take_of_length_le osi]at h
theorem NU70.eqs {P Q:Prop} (g:Imp P Q:=by(try simp only[go_sem,seval,ht,b1,Nat.add_assoc,List.length_replicate,Int.toNat_natCast]);exact Imp.rf):Imp P Q:=g
theorem NU70.inz {P Q:Prop} (g:Imp P Q:=by refine Imp.up eqs ?_;(repeat (first | (refine Imp.nd ?_ ?_;· first | exact⟨rfl,by(simp[AV.sz,AV.memOK];first | done | fail)⟩ | exact⟨Nat.le_refl _,.inr trivial,by omega,by omega⟩) | refine Imp.pl ?_));exact Imp.rf):Imp P Q:=g
open NU70 in
theorem Qc (i c:Nat) (hi:i≤1000000000) (hc:c≤1000000000) (H:Heap) (n:Nat):Ret prog 76 [.int .i64 i,.int .i64 c] H n (.sl 1 (List.replicate c (tlB i))) H n:=by
 have ht:=tailW i (by omega)
 have b1:=hi
 refine Ret.fin ?_
 refine fw func76 ntmps76 results76 ?_
 refine rg zs [0,1] ?_
 refine rg zs [0,1,5] ?_
 refine bk fun K1 hK1=> ?_
 refine ZX 5 1 rfl ?_
 refine Yl [0,1,5] ?_
 refine ns ?_
 refine Zo (fun T' H' n'=>∃(j ver:Nat),j≤c∧T'=tl [(0,.int .i64 i),(1,.int .i64 c),(5,.osl n ver 0 j)]∧H' n=some (.arr ver 1 (List.replicate j (tlB i)))∧(∀k,k<n→H' k=H k)∧n+1≤n') (fun T' _ _=>c-(match T' 5 with | .osl _ _ _ l=>l | _=>0)) ?_ ?_
 ·exact⟨0,0,Nat.zero_le _,rfl,by first | ((try simp only[Pv]);(repeat first | rw[if_pos rfl] | rw[if_pos trivial] | rw[if_neg (by omega)]);done) | ((try simp only[Pv]);(repeat first | rw[if_pos rfl] | rw[if_pos trivial] | rw[if_neg (by omega)]);rfl),fun k hk=>by(try simp only[Pv]);(repeat first | rw[if_pos rfl] | rw[if_pos trivial] | rw[if_neg (by omega)]),by omega⟩
 rintro T1 H1 n1 ⟨j,ver,hj,rfl,b1,hlow,hn1⟩
 refine Za fun K2 hK2=> ?_
 refine rg zs [0,1,5,9] ?_
 refine Zb ?_ ?_<;>intro hb
 ·have hlt:j<c:=by have:=of_decide_eq_true hb;omega
  refine ak ?_
  apply hK2
  refine Zq ?_
  refine rg1 zs [0,1,5] ?_
  refine⟨⟨j+1,ver+1,by omega,rfl,?_,fun k hk=>by(try simp only[Pv]);(repeat first | rw[if_pos rfl] | rw[if_pos trivial] | rw[if_neg (by omega)]);exact hlow k hk,by omega⟩,by show c-(j+1)<c-j;omega⟩
  (try simp only[Pv]);(repeat first | rw[if_pos rfl] | rw[if_pos trivial] | rw[if_neg (by omega)]);rw[List.take_of_length_le (by simp),List.replicate_succ'];rfl
 have he:j=c:=by have:=of_decide_eq_false hb;omega
 subst he
 refine ax ?_
 apply hK1
 refine VX 5 n b1 (by have h:=fz_any (k:=n) (ver:=ver) (e:=1) (List.replicate j (tlB i));rwa [List.length_replicate]at h) ?_
 refine rg zs [4] ?_
 refine ar ?_
 exact⟨_,rfl,fun k hk=>by(try simp only[Pv]);(repeat first | rw[if_pos rfl] | rw[if_pos trivial] | rw[if_neg (by omega)]);exact hlow k hk,.kl ((PY _ _).2 fun x hx=>by rw[List.eq_of_mem_replicate hx];trivial)⟩
theorem flat_snoc {α:Type} [Inhabited α] {β:Type} (f:α→List β) (l:List α) {i:Nat} (h:i<l.length):(l.take (i+1)).flatMap f=(l.take i).flatMap f++f (l.getD i default):=by
 rw[List.take_succ_eq_append_getElem h,List.flatMap_append]
 simp[List.getD,List.getElem?_eq_getElem h]
theorem blsC_len (l:List CO):(l.flatMap blsC).length=2*l.length:=by
 induction l with
 | nil=>rfl
 | cons c l ih=>rw[List.flatMap_cons,List.length_append,ih];simp[blsC];omega
theorem Pj (l:List RO) (h:∀r∈l,r.cs.length≤1048576):(l.flatMap blsR).length≤2097153*l.length:=by
 induction l with
 | nil=>simp
 | cons r l ih=>
   rw[List.flatMap_cons,List.length_append]
   have h1:=ih fun x hx=>h x (by simp[hx])
   have h2:=h r osi
   have:(blsR r).length=2*r.cs.length+1:=by rw[show blsR r=r.r::r.cs.flatMap blsC from rfl,List.length_cons,blsC_len]
   simp only[List.length_cons];omega
theorem memR {l:List RO} {i:Nat} (h:i<l.length):l.getD i default∈l:=by simp[List.getD,List.getElem?_eq_getElem h]
theorem NU71.eqs {P Q:Prop} (g:Imp P Q:=by(try simp only[go_sem,seval,hpv,hsz,hmo,hag,hst,hR,hR1,hC1,b1,b2,hnth,hntc,e1,g1,g2,Nat.add_assoc,List.length_map,Int.toNat_natCast]);exact Imp.rf):Imp P Q:=g
theorem NU71.inz {P Q:Prop} (g:Imp P Q:=by refine Imp.up eqs ?_;(repeat (first | (refine Imp.nd ?_ ?_;· first | exact⟨rfl,by(simp[BL.av_sz,BL.av_mo];first | done | fail)⟩ | (simp;omega)) | refine Imp.pl ?_));exact Imp.rf):Imp P Q:=g
open NU71 in
theorem Jz (p : PO) (hp : p.rs.length ≤ 1048576) (hc : ∀ r ∈ p.rs, r.cs.length ≤ 1048576) (H : Heap) (n : Nat) (hA : p.At H) (hk : p.kR < n ∧ ∀ r ∈ p.rs, r.kc < n) :
   Zk prog 47 [p.av] H n fun res H' n'=>∃ver,res= .val (.osl (n+1) ver 0 p.bls.length)∧H' (n+1)=some (.arr ver 1 (p.bls.map BL.av))∧(∀k,k<n→H' k=H k)∧n+2≤n':=by
 obtain⟨elsR,hR,hRl,hRn⟩:=hA.rows
 have hsz:∀s:BL,s.av.sz=1:=fun _=>rfl
 have hmo:∀s:BL,s.av.memOK=true:=fun _=>rfl
 have hag:∀s:BL,s.av.isAgg=false:=fun _=>rfl
 have hst:∀s:BL,strip true s.av=s.av:=fun _=>rfl
 have hpv:p.av= .agg [.osl p.kR p.vR 0 p.rs.length,p.t.av,.bool p.done]:=rfl
 obtain⟨L,hL⟩:∃L:Nat→List BL,L=fun i=>p.t::(p.rs.take i).flatMap blsR:=⟨_,rfl⟩
 have hLl:∀i,i≤p.rs.length→(L i).length≤2200000000000:=fun i hi=>by
   rw[hL]
   have:=Pj (p.rs.take i) (fun r hr=>hc r (List.mem_of_mem_take hr))
   rw[List.length_take]at this
   simp only[List.length_cons];omega
 have b1:=hp
 have b2:=hp
 have hnth:=hp
 have hntc:=hp
 have e1:=hp
 have g1:=hp
 have g2:=hp
 have hR1:=hp
 have hC1:=hp
 refine fw func47 ntmps47 results47 ?_
 refine rg zs [1] ?_
 refine rg zo [1,3] ?_
 refine Za fun K1 hK1=> ?_
 refine rg zs [1,3,4] ?_
 refine Zq ?_
 refine Zo (fun T' H' n'=>∃(i ver:Nat),i≤p.rs.length∧T'=tl [(1,.loc n 0 0 0 []),(3,.osl (n+1) ver 0 (L i).length),(4,.int .i64 i)]∧H' n=some (.arr 0 3 [p.av])∧H' (n+1)=some (.arr ver 1 ((L i).map BL.av))∧(∀k,k<n→H' k=H k)∧n+2≤n') (fun T' _ _=>p.rs.length-iv (T' 4)) ?_ ?_
 ·exact⟨0,0,Nat.zero_le _,by rw[hL];rfl,by first | ((try simp only[Pv]);(repeat first | rw[if_pos rfl] | rw[if_pos trivial] | rw[if_neg (by omega)]);done) | ((try simp only[Pv]);(repeat first | rw[if_pos rfl] | rw[if_pos trivial] | rw[if_neg (by omega)]);rfl),by rw[hL];first | ((try simp only[Pv]);(repeat first | rw[if_pos rfl] | rw[if_pos trivial] | rw[if_neg (by omega)]);done) | ((try simp only[Pv]);(repeat first | rw[if_pos rfl] | rw[if_pos trivial] | rw[if_neg (by omega)]);rfl),fun k hk=>by(try simp only[Pv]);(repeat first | rw[if_pos rfl] | rw[if_pos trivial] | rw[if_neg (by omega)]),by omega⟩
 rintro T1 H1 n1 ⟨i,ver,hi,rfl,b1,b2,hlow,hn1⟩
 refine Za fun K2 hK2=> ?_
 refine rg zs [1,3,4,13] ?_
 refine Zb ?_ ?_<;>intro hb
 ·have hlt:i<p.rs.length:=by have:=of_decide_eq_true hb;omega
  have hnth:=hRn i hlt
  have hrm:=memR hlt
  have hLs:L (i+1)=L i++blsR (p.rs.getD i default):=by rw[hL];simp only[flat_snoc blsR p.rs hlt,List.cons_append]
  have e1:IntKind.i64.wrap ((i:Int)+1)=((i+1:Nat):Int):=w1 (by omega)
  have hLi:=hLl (i+1) (by omega)
  obtain⟨elsC,hC,hCl,hCn⟩:=hA.cells _ hrm
  have hkr:=hk.2 _ hrm
  have hrc:=hc _ hrm
  obtain⟨r,hr⟩:∃r,r=p.rs.getD i default:=⟨_,rfl⟩
  rw[←hr]at hnth hLs hC hCl hCn hkr hrc
  clear hrm hr
  have hnth:nth elsR i= .agg [r.r.av,.osl r.kc r.vc 0 r.cs.length]:=hnth
  have hR1:H1 p.kR=some (.arr p.vR 2 elsR):=(hlow _ hk.1).trans hR
  have hLb:=hLl i hi
  refine ak ?_
  apply hK2
  refine bk fun K3 hK3=> ?_
  refine rg zs [1,3,4] ?_
  refine rg zs [1,3,4,5] ?_
  refine Zq ?_
  obtain⟨M,hM⟩:∃M:Nat→List BL,M=fun j=>L i++(r.r::(r.cs.take j).flatMap blsC):=⟨_,rfl⟩
  have hMl:∀j,j≤r.cs.length→(M j).length=(L i).length+1+2*j:=fun j hj=>by rw[hM];simp only[List.length_append,List.length_cons,blsC_len,List.length_take];omega
  refine Zo (fun T' H' n'=>∃(j ver:Nat),j≤r.cs.length∧T'=tl [(1,.loc n 0 0 0 []),(3,.osl (n+1) ver 0 (M j).length),(4,.int .i64 i),(5,.int .i64 j)]∧H' n=some (.arr 0 3 [p.av])∧H' (n+1)=some (.arr ver 1 ((M j).map BL.av))∧(∀k,k<n→H' k=H k)∧n+2≤n') (fun T' _ _=>r.cs.length-iv (T' 5)) ?_ ?_
  ·exact⟨0,ver+1,Nat.zero_le _,by rw[hMl 0 (by omega)];rfl,by(try simp only[Pv]);(repeat first | rw[if_pos rfl] | rw[if_pos trivial] | rw[if_neg (by omega)]);exact b1,by(try simp only[Pv]);(repeat first | rw[if_pos rfl] | rw[if_pos trivial] | rw[if_neg (by omega)]);rw[hM,List.take_of_length_le (by simp)];simp,fun k hk=>by(try simp only[Pv]);(repeat first | rw[if_pos rfl] | rw[if_pos trivial] | rw[if_neg (by omega)]);exact hlow k hk,by omega⟩
  rintro T1 H1 n1 ⟨j,ver,hj,rfl,b1,b2,hlow,hn1⟩
  have hR1:H1 p.kR=some (.arr p.vR 2 elsR):=(hlow _ hk.1).trans hR
  have hC1:H1 r.kc=some (.arr r.vc 4 elsC):=(hlow _ hkr).trans hC
  refine Za fun K4 hK4=> ?_
  refine rg zs [1,3,4,5,33] ?_
  refine Zb ?_ ?_<;>intro hb
  ·have hlj:j<r.cs.length:=by have:=of_decide_eq_true hb;omega
   have hntc:nth elsC j= .agg [.int .i64 (r.cs.getD j default).fam,(r.cs.getD j default).q.av,.int .i64 (r.cs.getD j default).ts,(r.cs.getD j default).v.av]:=hCn j hlj
   have hMs:M (j+1)=M j++blsC (r.cs.getD j default):=by rw[hM];simp only[flat_snoc blsC r.cs hlj,List.append_assoc,List.cons_append]
   have e1:IntKind.i64.wrap ((j:Int)+1)=((j+1:Nat):Int):=w1 (by omega)
   have hMb:=hMl j hj
   generalize r.cs.getD j default=c at*
   refine ak ?_
   apply hK4
   refine bk fun K5 hK5=> ?_
   refine dx1 zs [1,3,4,5] [.m,.q,.q,.m,.q,.q,.q,.m,.q,.q,.q,.q,.q,.m,.q,.q,.q,.m,.q,.q,.q,.q,.w [],.q] [0,1,2,3,4,5,6,7,8,9,10,11,12,13,14,15,16,17,18,19,20,21,22,23] [0,1,2,3,4,5,6,7,8,9,10,11,12,13,14,15,16,17,18,19,20,21,22,23] fun K V=> ?_
   apply V;clear V K
   refine ns ?_
   apply hK5
   refine rg1 zs [1,3,4,5] ?_
   refine⟨⟨j+1,ver+1,by omega,by rw[hMs];simp[blsC],by rw[List.take_of_length_le (by simp),hMs];simp[blsC],fun k hk=>by(try simp only[Pv]);(repeat first | rw[if_pos rfl] | rw[if_pos trivial] | rw[if_neg (by omega)]);exact hlow k hk,by omega⟩,by show r.cs.length-(j+1)<r.cs.length-j;omega⟩
  have he:j=r.cs.length:=by have:=of_decide_eq_false hb;omega
  have hME:M j=L (i+1):=by rw[hM,hLs,he];show L i++(r.r::(r.cs.take r.cs.length).flatMap blsC)=_;rw[List.take_length];rfl
  have e1:IntKind.i64.wrap ((i:Int)+1)=((i+1:Nat):Int):=w1 (by omega)
  refine ax ?_
  apply hK3
  refine rg1 zs [1,3,4] ?_
  exact⟨⟨i+1,ver,by omega,by rw[hME],by rw[hME],hlow,hn1⟩,by show p.rs.length-(i+1)<p.rs.length-i;omega⟩
 have he:i=p.rs.length:=by have:=of_decide_eq_false hb;omega
 have hLE:L i=p.bls:=by rw[hL,he];show p.t::(p.rs.take p.rs.length).flatMap blsR=_;rw[List.take_length];rfl
 refine ax ?_
 apply hK1
 refine rg zs [2] ?_
 refine ar ?_
 rw[hLE]at b2 ⊢
 exact⟨ver,rfl,rfl,hlow,hn1⟩
structure F1 (bs:List BL) (H:Heap) (i:Nat) (H':Heap):Prop where
 mrk:∀j,j<i→Mk H' (bs.getD j default).k (bs.getD j default).v 1 (mkB j) (tlB j) (bs.getD j default).l 0
 bl:∀j,i≤j→j<bs.length→Bl0 H' 1 (bs.getD j default)
 out:∀k,k∉bs.map (·.k)→H' k=H k
theorem F1.init {bs:List BL} {H:Heap} {B:Nat} (h:Mh H B bs):F1 bs H 0 H:=⟨fun j hj=>om,fun j _ hj=>(h _ (XY hj)).1,fun _ _=>rfl⟩
theorem F1.step {bs : List BL} {H H1 H2 : Heap} {i : Nat} (h : F1 bs H i H1) (hd : (bs.map (·.k)).Nodup) (hi : i < bs.length) {X : List AV} (hX : (bs.getD i default).l ≤ X.length) (h2 : H2 (bs.getD i default).k = some (.arr (bs.getD i default).v 1 (List.replicate (bs.getD i default).l (mkB i) ++ X.drop (bs.getD i default).l)))
   (hr:∀k,k≠(bs.getD i default).k→H2 k=H1 k):F1 bs H (i+1) H2:=by
 refine⟨fun j hj=> ?_,fun j hj hj2=> ?_,fun k hk=> ?_⟩
 ·by_cases e:j=i
  ·subst e;exact Mk.full h2 hX
  ·exact(h.mrk j om).frame (hr _ (bl_ne hd om hi e))
 ·obtain⟨Y,a,b⟩:=h.bl j om hj2
  exact⟨Y,(hr _ (bl_ne hd hj2 hi om)).trans a,b⟩
 ·rw[hr k (fun e=>hk (by rw[e];exact List.mem_map.2 ⟨_,XY hi,rfl⟩))]
  exact h.out k hk
theorem Fl.init {bs:List BL} {H H1:Heap} {n:Nat} {o:Option AObj} (h:F1 bs H bs.length H1) (hlo:∀s∈bs,s.k<n+1∧s.k≠n):Fl bs H (n+1) n 0 [] (H1.put n o) (n+1):=
 ⟨rfl,fun j hj=>(h.mrk j hj).frame (Pw _ _ (hlo _ (XY hj)).2),fun k hk=>om,fun k hk hn hb=>(Pw _ _ hn).trans (h.out k hb),Nat.le_refl _⟩
theorem Gx.keep {H H2 : Heap} {lo hi hi2 : Nat} {s : BL} {i : Nat} {x : BL} {c kk ver : Nat} {els : List AV} (h : Gx H lo hi s i x c) (hkk : H kk = some (.arr ver 1 els)) (hkeep : ∀ a, Mk H kk ver 1 (mkB i) (tlB i) s.l a → Mk H2 kk ver 1 (mkB i) (tlB i) s.l a)
   (hrest:∀j,j<hi→j≠kk→H2 j=H j) (hh:hi≤hi2):Gx H2 lo hi2 s i x c:=by
 by_cases e:x.k=kk
 ·have hv : x.v = ver := by
    obtain⟨els',a,_⟩:=h.mrk
    rw[e,hkk]at a
    simp only[Option.some.injEq,AObj.arr.injEq]at a
    exact a.1.symm
  exact⟨h.key,Nat.lt_of_lt_of_le h.lt hh,h.l,by rw[e,hv];exact hkeep _ (by rw[←e,←hv];exact h.mrk)⟩
 ·exact h.frame (hrest _ h.lt e) hh
theorem NU80.eqs {P Q:Prop} (g:Imp P Q:=by(try simp only[go_sem,seval,hsz,hmo,hst,ha1,hnth,hmw,hk1,b1,e1,Nat.add_assoc,List.length_map,Int.toNat_natCast]);exact Imp.rf):Imp P Q:=g
theorem NU80.inz {P Q:Prop} (g:Imp P Q:=by refine Imp.up eqs ?_;(repeat (first | (refine Imp.nd ?_ ?_;· first | exact⟨rfl,by(simp[AV.sz,AV.memOK];first | done | fail)⟩ | (simp;omega) | exact⟨by rw[hfl];omega,by rw[fill_nth];exact hX3 j hlj⟩) | refine Imp.pl ?_));exact Imp.rf):Imp P Q:=g
set_option maxHeartbeats 3200000 in
open NU80 in
theorem MK (bs : List BL) (hN : bs.length ≤ 1000000000) (hd : (bs.map (·.k)).Nodup) (ka va : Nat) (H : Heap) (n : Nat) (ha : H ka = some (.arr va 1 (bs.map BL.av))) (hka : ka < n) (hk : ∀ s ∈ bs, s.k < n ∧ s.k ≠ ka) (hB : Mh H 1099511627776 bs) :
   Zk prog 48 [.osl ka va 0 bs.length] H n fun res H' n'=>∃ms ver,res= .val (.osl n ver 0 (3*bs.length))∧H' n=some (.arr ver 1 (ms.map BL.av))∧Fl bs H (n+1) n bs.length ms H' n':=by
 have hkab:ka∉bs.map (·.k):=fun h=>by obtain⟨s,hs,e⟩:=List.mem_map.1 h;exact(hk s hs).2 e
 have hlo:∀s∈bs,s.k<n+1∧s.k≠n:=fun s hs=>by have:=(hk s hs).1;exact⟨by omega,by omega⟩
 have hsz:∀s:BL,s.av.sz=1:=fun _=>rfl
 have hmo:∀s:BL,s.av.memOK=true:=fun _=>rfl
 have hst:∀s:BL,strip true s.av=s.av:=fun _=>rfl
 have ha1:=hN
 have hnth:=hN
 have hmw:=hN
 have hk1:=hN
 have b1:=hN
 have e1:=hN
 refine fw func48 ntmps48 results48 ?_
 refine rg zs [0] ?_
 refine Za fun K1 hK1=> ?_
 refine rg zs [0,3] ?_
 refine Zq ?_
 refine Zo (fun T' H' n'=>∃i:Nat,i≤bs.length∧T'=tl [(0,.osl ka va 0 bs.length),(3,.int .i64 i)]∧F1 bs H i H'∧n=n') (fun T' _ _=>bs.length-iv (T' 3)) ?_ ?_
 ·exact⟨0,Nat.zero_le _,rfl,F1.init hB,rfl⟩
 rintro T1 H1 n1 ⟨i,hi,rfl,hF,rfl⟩
 refine Za fun K2 hK2=> ?_
 refine rg zs [0,3,14] ?_
 refine Zb ?_ ?_<;>intro hb
 ·have hlt:i<bs.length:=by have:=of_decide_eq_true hb;omega
  have hnth:nth (bs.map BL.av) i= .osl (bs.getD i default).k (bs.getD i default).v 0 (bs.getD i default).l:=Zw BL.av bs i hlt
  obtain⟨X,hX1,hX2,hX3⟩:=hF.bl i (Nat.le_refl _) hlt
  have hmw:=markW i (by omega)
  have hsB:=(hB _ (XY hlt)).2
  have hsk:=hk _ (XY hlt)
  have hFs:=fun H2 h2 hr=>hF.step (H2:=H2) hd hlt hX2 h2 hr
  generalize bs.getD i default=s at*
  have e1:IntKind.i64.wrap ((i:Int)+1)=((i+1:Nat):Int):=w1 (by omega)
  refine ak ?_
  apply hK2
  refine bk fun K3 hK3=> ?_
  refine rg zs [0,3,4] ?_
  refine Zq ?_
  refine Zo (fun T' H' n'=>∃j:Nat,j≤s.l∧T'=tl [(0,.osl ka va 0 bs.length),(3,.int .i64 i),(4,.int .i64 j)]∧H' s.k=some (.arr s.v 1 (List.replicate j (mkB i)++X.drop j))∧(∀k,k≠s.k→H' k=H1 k)∧n=n') (fun T' _ _=>s.l-iv (T' 4)) ?_ ?_
  ·exact⟨0,Nat.zero_le _,rfl,by simpa using hX1,fun _ _=>rfl,rfl⟩
  rintro T1 H1 n1 ⟨j,hj,rfl,hk1,hrest,rfl⟩
  have ha1:H1 ka=some (.arr va 1 (bs.map BL.av)):=(hrest ka (Ne.symm hsk.2)).trans ((hF.out ka hkab).trans ha)
  refine Za fun K4 hK4=> ?_
  refine rg zs [0,3,4,23] ?_
  refine Zb ?_ ?_<;>intro hb
  ·have hlj:j<s.l:=by have:=of_decide_eq_true hb;omega
   have e1:IntKind.i64.wrap ((j:Int)+1)=((j+1:Nat):Int):=w1 (by omega)
   have hfl:=NH (mk:=mkB i) (X:=X) (j:=j) (by omega)
   refine ak ?_
   apply hK4
   refine bk fun K5 hK5=> ?_
   refine rg1 zs [0,3,4] ?_
   apply hK5
   refine rg1 zs [0,3,4] ?_
   refine⟨⟨j+1,by omega,rfl,?_,fun k hk=>by(try simp only[Pv]);(repeat first | rw[if_pos rfl] | rw[if_pos trivial] | rw[if_neg (by omega)]);exact hrest k hk⟩,by show s.l-(j+1)<s.l-j;omega⟩
   (try simp only[Pv]);(repeat first | rw[if_pos rfl] | rw[if_pos trivial] | rw[if_neg (by omega)]);rw[←fill_step (by omega)];rfl
  have hje:j=s.l:=by have:=of_decide_eq_false hb;omega
  subst hje
  have e1:IntKind.i64.wrap ((i:Int)+1)=((i+1:Nat):Int):=w1 (by omega)
  refine ax ?_
  apply hK3
  refine rg1 zs [0,3] ?_
  exact⟨⟨i+1,by omega,rfl,hFs _ hk1 hrest⟩,by show bs.length-(i+1)<bs.length-i;omega⟩
 have hge:i=bs.length:=by have:=of_decide_eq_false hb;omega
 subst hge
 refine ax ?_
 apply hK1
 refine rg zs [0,5] ?_
 refine Za fun K6 hK6=> ?_
 refine rg zs [0,5,6] ?_
 refine Zq ?_
 refine ZX 5 1 rfl ?_
 refine Yl [0,5,6] ?_
 refine ns ?_
 refine Zo (fun T' H' n'=>∃(i ver:Nat) (ms:List BL),i≤bs.length∧T'=tl [(0,.osl ka va 0 bs.length),(5,.osl n ver 0 (3*i)),(6,.int .i64 i)]∧H' n=some (.arr ver 1 (ms.map BL.av))∧Fl bs H (n+1) n i ms H' n') (fun T' _ _=>bs.length-iv (T' 6)) ?_ ?_
 ·exact⟨0,0,[],Nat.zero_le _,rfl,by first | ((try simp only[Pv]);(repeat first | rw[if_pos rfl] | rw[if_pos trivial] | rw[if_neg (by omega)]);done) | ((try simp only[Pv]);(repeat first | rw[if_pos rfl] | rw[if_pos trivial] | rw[if_neg (by omega)]);rfl),Fl.init hF hlo⟩
 rintro T1 H1 n1 ⟨i,ver,ms,hi,rfl,b1,hF⟩
 have ha1:H1 ka=some (.arr va 1 (bs.map BL.av)):=(hF.out ka (by omega) (by omega) hkab).trans ha
 refine Za fun K7 hK7=> ?_
 refine rg zs [0,5,6,39] ?_
 refine Zb ?_ ?_<;>intro hb
 ·have hlt:i<bs.length:=by have:=of_decide_eq_true hb;omega
  have hnth:nth (bs.map BL.av) i= .osl (bs.getD i default).k (bs.getD i default).v 0 (bs.getD i default).l:=Zw BL.av bs i hlt
  have hM1:=hF.mrk i hlt
  have hsB:=(hB _ (XY hlt)).2
  have hsk:=hk _ (XY hlt)
  have hFs:=fun x y z H3 n3=>hF.step (x:=x) (y:=y) (z:=z) (H3:=H3) (n3:=n3) hd hlo (by omega) hlt
  have hn1:=hF.le
  have hml:=hF.len
  generalize bs.getD i default=s at*
  have e1:IntKind.i64.wrap ((i:Int)+1)=((i+1:Nat):Int):=w1 (by omega)
  obtain⟨els,hk1,hel,_⟩:=id hM1
  obtain⟨m1,hm1⟩:∃x,x=n1:=⟨_,rfl⟩
  subst hm1
  obtain⟨G1,hg1⟩:∃x,x=H1:=⟨_,rfl⟩
  subst hg1
  have hG0:Gx G1 m1 m1 s i s 0:=⟨.inl rfl,by omega,rfl,hM1⟩
  refine ak ?_
  apply hK7
  refine bk fun K8 hK8=> ?_
  refine awp_drm rfl zs [0,5,6,7] [.m,.m,.q,.q,.m,.c,.w [],.q] [0,1,2,3,4,5] [7] [0,1,2,3,4,5,6,7] 6 rfl rfl (by first | trivial | (show _<_;decide)) (by kernel_rfl) (fun _ _ _ _ _ h=>h) fun K V=> ?_
  refine nz ?_
  refine cq func76 (fun _ n=>(Qc i 1 (by omega) (by omega) _ _)) ?_
  refine Kr (m:=mkB i) (t:=tlB i) (c:=0) (b:=1) (by omega) hk1 hM1 ?_
  intro gk1 gv1 H2 n2 hn2 hgl2 hor2 hmk2 hkp2 hrs2
  refine nz ?_
  apply V;clear V K
  have hA2:Gx H2 m1 n2 s i ⟨gk1,gv1,s.l+1⟩ 1:=⟨hor2,hgl2,rfl,hmk2⟩
  have hS2:=hG0.keep hk1 hkp2 hrs2 hn2
  have hf2:∀k,k<m1→k≠s.k→H2 k=G1 k:=hrs2
  have ha1:H2 ka=some (.arr va 1 (bs.map BL.av)):=(hf2 ka (by omega) (Ne.symm hsk.2)).trans ha1
  clear hk1 hel hkp2 hrs2
  obtain⟨els,hk1,hel,_⟩:=id hS2.mrk
  refine awp_drm rfl zs [0,5,6,7,8] [.m,.m,.q,.q,.m,.c,.w [],.q] [0,1,2,3,4,5] [7] [0,1,2,3,4,5,6,7] 6 rfl rfl (by first | trivial | (show _<_;decide)) (by kernel_rfl) (fun _ _ _ _ _ h=>h) fun K V=> ?_
  refine nz ?_
  refine cq func76 (fun _ n=>(Qc i 2 (by omega) (by omega) _ _)) ?_
  refine Kr (m:=mkB i) (t:=tlB i) (c:=0) (b:=2) (by omega) hk1 hS2.mrk ?_
  intro gk2 gv2 H3 n3 hn3 hgl3 hor3 hmk3 hkp3 hrs3
  refine nz ?_
  apply V;clear V K
  have hB3:Gx H3 m1 n3 s i ⟨gk2,gv2,s.l+2⟩ 2:=⟨hor3.imp id fun h=>(by show m1≤gk2;omega),hgl3,rfl,hmk3⟩
  have hA3:=hA2.keep hk1 hkp3 hrs3 hn3
  have hS3:=hS2.keep hk1 hkp3 hrs3 hn3
  have hf3:∀k,k<m1→k≠s.k→H3 k=G1 k:=fun k h1 h2=>(hrs3 k (by omega) h2).trans (hf2 k h1 h2)
  have ha1:H3 ka=some (.arr va 1 (bs.map BL.av)):=(hf3 ka (by omega) (Ne.symm hsk.2)).trans ((hF.out ka (by omega) (by omega) hkab).trans ha)
  clear hk1 hel hkp3 hrs3
  refine rg zs [0,5,6,7,8,9] ?_
  refine Za fun K9 hK9=> ?_
  refine rg zs [0,5,6,7,8,9,10] ?_
  refine Zq ?_
  refine Zo (fun T' H' n'=>∃(c gk gv:Nat),c≤70∧T'=tl [(0,.osl ka va 0 bs.length),(5,.osl n ver 0 (3*i)),(6,.int .i64 i),(7,.osl gk1 gv1 0 (s.l+1)),(8,.osl gk2 gv2 0 (s.l+2)),(9,.osl gk gv 0 (s.l+c)),(10,.int .i64 c)]∧m1≤n'∧Gx H' m1 n' s i s 0∧Gx H' m1 n' s i ⟨gk1,gv1,s.l+1⟩ 1∧Gx H' m1 n' s i ⟨gk2,gv2,s.l+2⟩ 2∧Gx H' m1 n' s i ⟨gk,gv,s.l+c⟩ c∧∀k,k<m1→k≠s.k→H' k=G1 k) (fun T' _ _=>70-iv (T' 10)) ?_ ?_
  ·exact⟨0,s.k,s.v,Nat.zero_le _,rfl,by omega,hS3,hA3,hB3,hS3,hf3⟩
  rintro T1 H1 n1 ⟨c,gk,gv,hc,rfl,hn4,hS4,hA4,hB4,hG4,hf4⟩
  refine Za fun K10 hK10=> ?_
  refine rg zs [0,5,6,7,8,9,10,61] ?_
  refine Zb ?_ ?_<;>intro hb
  ·have hlc:c<70:=by have:=of_decide_eq_true hb;omega
   have e1:IntKind.i64.wrap ((c:Int)+1)=((c+1:Nat):Int):=w1 (by omega)
   obtain⟨els,hk1,hel,_⟩:=id hG4.mrk
   have hgl4:=hG4.lt
   refine ak ?_
   apply hK10
   refine bk fun K11 hK11=> ?_
   refine awp_reg_apm1 zs [0,5,6,7,8,9,10] 3 rfl (by first | trivial | (show _<_;decide)) fun K V=> ?_
   refine nz ?_
   refine ck func76 ((Qc i 1 (by omega) (by omega) _ _)) ?_
   refine Kr (m:=mkB i) (t:=tlB i) (c:=c) (b:=1) hgl4 hk1 hG4.mrk ?_
   intro gk5 gv5 H5 n5 hn5 hgl5 hor5 hmk5 hkp5 hrs5
   refine nz ?_
   apply V;clear V K
   refine ns ?_
   apply hK11
   refine rg1 zs [0,5,6,7,8,9,10] ?_
   exact⟨⟨c+1,gk5,gv5,by omega,rfl,by omega,hS4.keep hk1 hkp5 hrs5 hn5,hA4.keep hk1 hkp5 hrs5 hn5,hB4.keep hk1 hkp5 hrs5 hn5,⟨by rcases hor5 with h | h;exact h▸hG4.key;exact .inr (by show m1≤gk5;omega),hgl5,rfl,hmk5⟩,fun k h1 h2=>(hrs5 k (by omega) (by rcases hG4.key with h | h<;>(simp only at h;omega))).trans (hf4 k h1 h2)⟩,by omega⟩
  have hce:c=70:=by have:=of_decide_eq_false hb;omega
  subst hce
  have b1:=(hf4 n (by omega) (by omega)).trans b1
  have hmll:(ms.map BL.av).length=3*i:=by rw[List.length_map,hml]
  have e1:IntKind.i64.wrap ((i:Int)+1)=((i+1:Nat):Int):=w1 (by omega)
  refine ax ?_
  apply hK9
  refine rg1 zs [0,5,6] ?_
  apply hK8
  refine rg1 zs [0,5,6] ?_
  have hfr:∀o x c,Gx H1 m1 n1 s i x c→Gx (H1.put n o) m1 n1 s i x c:=fun o x c h=>h.frame (Pw _ _ (by rcases h.key with e | e<;>omega)) (Nat.le_refl _)
  refine⟨⟨i+1,ver+1,ms++[⟨gk1,gv1,s.l+1⟩,⟨gk2,gv2,s.l+2⟩,⟨gk,gv,s.l+70⟩],by omega,rfl,by rw[List.take_of_length_le (by rw[hmll];omega),List.map_append];rfl,?_⟩,by omega⟩
  exact hFs _ _ _ _ _ (by omega) (hfr _ _ _ hA4) (hfr _ _ _ hB4) (hfr _ _ _ hG4) (hfr _ _ _ hS4).mrk fun j h1 h2 h3=>(Pw _ _ h3).trans (hf4 j h1 h2)
 have hge:i=bs.length:=by have:=of_decide_eq_false hb;omega
 subst hge
 refine ax ?_
 apply hK6
 refine rg zs [2] ?_
 refine ar ?_
 exact⟨ms,ver,rfl,rfl,hF⟩
theorem qb_any (P:Program) (t:TypeId) (x:AV) (k:IntKind) (b:Int):qBin P t .neq x (.int k b)=none∨∃C y,qBin P t .neq x (.int k b)=some (C,.bool y):=by
 cases x<;>first | exact .inl rfl | exact .inr ⟨_,_,rfl⟩
theorem NU90.eqs {P Q:Prop} (g:Imp P Q:=by(try simp only[go_sem,seval,ha,hm,hmll,hnth,hnx,h0,h1,h2,w3,w4,w5,w6,w7,w8,w9,e1,hk1,hk2,hnv,hnu,hmw,htw,bne_self_eq_false,Bool.or_false,hq,Nat.add_assoc,List.length_map,Int.toNat_natCast]);exact Imp.rf):Imp P Q:=g
theorem NU90.inz {P Q:Prop} (g:Imp P Q:=by refine Imp.up eqs ?_;(repeat (first | (refine Imp.nd ?_ ?_;· first | (intro g;cases g)) | refine Imp.pl ?_));exact Imp.rf):Imp P Q:=g
open NU90 in
theorem c_law13_stand (bs ms : List BL) (hN : bs.length ≤ 1000000000) (ka va km vm : Nat) (H : Heap) (n : Nat) (ha : H ka = some (.arr va 1 (bs.map BL.av))) (hm : H km = some (.arr vm 1 (ms.map BL.av))) (hl : ms.length = 3 * bs.length)
   (hM:∀j,j<bs.length→Mk H (bs.getD j default).k (bs.getD j default).v 1 (mkB j) (tlB j) (bs.getD j default).l 0)
   (hG:∀k,k<3*bs.length→(ms.getD k default).l=(bs.getD (k/3) default).l+cnt (k%3)∧Mk H (ms.getD k default).k (ms.getD k default).v 1 (mkB (k/3)) (tlB (k/3)) (bs.getD (k/3) default).l (cnt (k%3)))
   (hB:∀s∈bs,s.l≤1099511627776):
   Ret prog 50 [.osl ka va 0 bs.length,.osl km vm 0 (3*bs.length)] H n (.bool true) H n:=by
 have hmn:∀k,k<3*bs.length→nth (ms.map BL.av) k= .osl (ms.getD k default).k (ms.getD k default).v 0 (ms.getD k default).l:=fun k hk=>Zw BL.av ms k (by omega)
 have hmll:(ms.map BL.av).length=3*bs.length:=by rw[List.length_map,hl]
 have hq:=hN
 have hnth:=hN
 have hnx:=hN
 have h0:=hN
 have h1:=hN
 have h2:=hN
 have w3:=hN
 have w4:=hN
 have w5:=hN
 have w6:=hN
 have w7:=hN
 have w8:=hN
 have w9:=hN
 have e1:=hN
 have hk1:=hN
 have hk2:=hN
 have hnv:=hN
 have hnu:=hN
 have hmw:=hN
 have htw:=hN
 refine Ret.fin ?_
 refine fw func50 ntmps50 results50 ?_
 refine rg zs [0,1] ?_
 refine Za fun K1 hK1=> ?_
 refine rg zs [0,1,5] ?_
 refine Zq ?_
 refine Zo (fun T' H' n'=>∃i:Nat,i≤bs.length∧T'=tl [(0,.osl ka va 0 bs.length),(1,.osl km vm 0 (3*bs.length)),(5,.int .i64 i)]∧H=H'∧n=n') (fun T' _ _=>bs.length-iv (T' 5)) ?_ ?_
 ·exact⟨0,Nat.zero_le _,rfl,rfl,rfl⟩
 rintro T1 H1 n1 ⟨i,hi,rfl,rfl,rfl⟩
 refine Za fun K2 hK2=> ?_
 refine rg zs [0,1,5,13] ?_
 refine Zb ?_ ?_<;>intro hb
 ·have hlt:i<bs.length:=by have:=of_decide_eq_true hb;omega
  have hnth:nth (bs.map BL.av) i= .osl (bs.getD i default).k (bs.getD i default).v 0 (bs.getD i default).l:=Zw BL.av bs i hlt
  have hsB:=hB _ (XY hlt)
  have hMi:=hM i hlt
  have hGi:∀r,r<3→(ms.getD (3*i+r) default).l=(bs.getD i default).l+cnt r∧Mk H (ms.getD (3*i+r) default).k (ms.getD (3*i+r) default).v 1 (mkB i) (tlB i) (bs.getD i default).l (cnt r):=fun r hr=>by
    have h:=hG (3*i+r) (by omega)
    rwa [show(3*i+r)/3=i by omega,show(3*i+r)%3=r by omega]at h
  generalize bs.getD i default=s at*
  have w3:IntKind.i64.wrap (3*(i:Int))=((3*i:Nat):Int):=by rw[w64 (by omega) (by omega)];omega
  have w4:IntKind.i64.wrap (((3*i:Nat):Int)+1)=((3*i+1:Nat):Int):=w1 (by omega)
  have w5:IntKind.i64.wrap (((3*i:Nat):Int)+2)=((3*i+2:Nat):Int):=by rw[w64 (by omega) (by omega)];omega
  have w6:IntKind.i64.wrap (((3*i:Nat):Int)+3)=((3*i+3:Nat):Int):=by rw[w64 (by omega) (by omega)];omega
  have w7:IntKind.i64.wrap ((s.l:Int)+1)=((s.l+1:Nat):Int):=w1 (by omega)
  have w8:IntKind.i64.wrap ((s.l:Int)+2)=((s.l+2:Nat):Int):=by rw[w64 (by omega) (by omega)];omega
  have w9:IntKind.i64.wrap ((s.l:Int)+70)=((s.l+70:Nat):Int):=by rw[w64 (by omega) (by omega)];omega
  have h0:nth (ms.map BL.av) (3*i)= .osl (ms.getD (3*i) default).k (ms.getD (3*i) default).v 0 (s.l+1):=by rw[hmn _ (by omega)];have:=(hGi 0 (by omega)).1;simp only[Nat.add_zero]at this;rw[this];rfl
  have h1:nth (ms.map BL.av) (3*i+1)= .osl (ms.getD (3*i+1) default).k (ms.getD (3*i+1) default).v 0 (s.l+2):=by rw[hmn _ (by omega),(hGi 1 (by omega)).1];rfl
  have h2:nth (ms.map BL.av) (3*i+2)= .osl (ms.getD (3*i+2) default).k (ms.getD (3*i+2) default).v 0 (s.l+70):=by rw[hmn _ (by omega),(hGi 2 (by omega)).1];rfl
  have e1:IntKind.i64.wrap ((i:Int)+1)=((i+1:Nat):Int):=w1 (by omega)
  refine ak ?_
  apply hK2
  refine bk fun K3 hK3=> ?_
  refine rg zs [0,1,5,6] ?_
  refine Za fun K4 hK4=> ?_
  refine rg zs [0,1,5,6,53] ?_
  refine Zb ?_ ?_<;>intro hb
  ·exact absurd hb (by simp)
  refine ak ?_
  apply hK4
  refine rg zs [0,1,5,6,7] ?_
  refine Zq ?_
  refine Zo (fun T' H' n'=>∃r:Nat,r≤3∧T'=tl [(0,.osl ka va 0 bs.length),(1,.osl km vm 0 (3*bs.length)),(5,.int .i64 i),(6,.int .i64 s.l),(7,.int .i64 ((3*i+r:Nat):Int))]∧H=H'∧n=n') (fun T' _ _=>3*i+3-iv (T' 7)) ?_ ?_
  ·exact⟨0,by omega,rfl,rfl,rfl⟩
  rintro T1 H1 n1 ⟨r,hr,rfl,rfl,rfl⟩
  refine Za fun K5 hK5=> ?_
  refine rg zs [0,1,5,6,7,60] ?_
  refine Zb ?_ ?_<;>intro hb
  ·have hlr:r<3:=by have:=of_decide_eq_true hb;omega
   obtain⟨hx,hMx⟩:=hGi r hlr
   have hnx:nth (ms.map BL.av) (3*i+r)= .osl (ms.getD (3*i+r) default).k (ms.getD (3*i+r) default).v 0 (s.l+cnt r):=by rw[hmn _ (by omega),hx]
   have hcr:cnt r≤70:=by unfold cnt;split;omega;split<;>omega
   have hklt:3*i+r<3*bs.length:=by omega
   generalize ms.getD (3*i+r) default=x at*
   have e1:IntKind.i64.wrap (((3*i+r:Nat):Int)+1)=((3*i+(r+1):Nat):Int):=w1 (by omega)
   obtain⟨elx,hk1,hxl,hxn⟩:=hMx
   obtain⟨els,hk2,hsl,hsn⟩:=id hMi
   have hmw:=markW i (by omega)
   have htw:=tailW i (by omega)
   refine ak ?_
   apply hK5
   refine bk fun K6 hK6=> ?_
   refine rg zs [0,1,5,6,7,8] ?_
   refine Zq ?_
   refine Zo (fun T' H' n'=>∃j:Nat,j≤s.l+cnt r∧T'=tl [(0,.osl ka va 0 bs.length),(1,.osl km vm 0 (3*bs.length)),(5,.int .i64 i),(6,.int .i64 s.l),(7,.int .i64 ((3*i+r:Nat):Int)),(8,.int .i64 j)]∧H=H'∧n=n') (fun T' _ _=>s.l+cnt r-iv (T' 8)) ?_ ?_
   ·exact⟨0,by omega,rfl,rfl,rfl⟩
   rintro T1 H1 n1 ⟨j,hj,rfl,rfl,rfl⟩
   refine Za fun K7 hK7=> ?_
   refine rg zs [0,1,5,6,7,8,69] ?_
   refine Zb ?_ ?_<;>intro hb
   ·have hlj:j<s.l+cnt r:=by have:=of_decide_eq_true hb;omega
    have hnv:=hxn j hlj
    have e1:IntKind.i64.wrap ((j:Int)+1)=((j+1:Nat):Int):=w1 (by omega)
    refine ak ?_
    apply hK7
    refine bk fun K8 hK8=> ?_
    refine rg zs [0,1,5,6,7,8,9] ?_
    refine Za fun K9 hK9=> ?_
    refine rg zs [0,1,5,6,7,8,9,78] ?_
    refine Zb ?_ ?_<;>intro hb
    ·have hge:s.l≤j:=by have:=of_decide_eq_true hb;omega
     have hnv:nth elx j= .int .u8 ((251+i%5:Nat):Int):=by rw[hnv,if_neg (by omega)];rfl
     have hnu:decide ((j:Int)<(s.l:Int))=false:=decide_eq_false (by omega)
     refine rg1 zs [0,1,5,6,7,8,9] ?_
     apply hK9
     rcases qb_any prog 5 (nth els j) .u8 ((251+i%5:Nat):Int)with hq | ⟨C9,y9,hq⟩
     ·refine rg zs [0,1,5,6,7,8,107] ?_
      refine Zb ?_ ?_<;>intro hb
      ·exact absurd hb (by simp)
      refine ak ?_
      apply hK8
      refine rg1 zs [0,1,5,6,7,8] ?_
      exact⟨⟨j+1,by omega,rfl⟩,by omega⟩
     ·refine rg zs [0,1,5,6,7,8,107] ?_
      refine Zb ?_ ?_<;>intro hb
      ·exact absurd hb (by simp)
      refine ak ?_
      apply hK8
      refine rg1 zs [0,1,5,6,7,8] ?_
      exact⟨⟨j+1,by omega,rfl⟩,by omega⟩
    have hge:j<s.l:=by have:=of_decide_eq_false hb;omega
    have hnv:nth elx j= .int .u8 ((1+i%250:Nat):Int):=by rw[hnv,if_pos (by omega)];rfl
    have hnu:nth els j= .int .u8 ((1+i%250:Nat):Int):=by rw[hsn j (by omega),if_pos hge];rfl
    refine ak ?_
    apply hK9
    rcases qb_any prog 5 (nth els j) .u8 ((251+i%5:Nat):Int)with hq | ⟨C9,y9,hq⟩
    ·refine rg zs [0,1,5,6,7,8,107] ?_
     refine Zb ?_ ?_<;>intro hb
     ·exact absurd hb (by simp)
     refine ak ?_
     apply hK8
     refine rg1 zs [0,1,5,6,7,8] ?_
     exact⟨⟨j+1,by omega,rfl⟩,by omega⟩
    ·refine rg zs [0,1,5,6,7,8,107] ?_
     refine Zb ?_ ?_<;>intro hb
     ·exact absurd hb (by simp)
     refine ak ?_
     apply hK8
     refine rg1 zs [0,1,5,6,7,8] ?_
     exact⟨⟨j+1,by omega,rfl⟩,by omega⟩
   refine ax ?_
   apply hK6
   refine rg1 zs [0,1,5,6,7] ?_
   exact⟨⟨r+1,by omega,rfl⟩,by omega⟩
  refine ax ?_
  apply hK3
  refine rg1 zs [0,1,5] ?_
  exact⟨⟨i+1,by omega,rfl⟩,by omega⟩
 have hge:i=bs.length:=by have:=of_decide_eq_false hb;omega
 refine ax ?_
 apply hK1
 refine rg zs [4] ?_
 refine ar ?_
 exact⟨_,rfl,.kl trivial⟩
end Go.Proofs.YtkmkbndcekklmaaGreatDoor
set_option maxRecDepth 10000
namespace Go.Proofs.YtkmkbndcekklmaaGreatDoor
open Go Go.Sx Go.Rt Go.Proofs
theorem tab_top:∀i j:Fin 16,(tabQ ((i.1:Nat):Int)).toNat/268435456=(tabQ ((j.1:Nat):Int)).toNat/268435456→i=j:=by decide +kernel
def nibS (r c:Nat):Nat:=r/16 ^^^ nibM (r%16) (c%16)
theorem Mt {x y z:Nat} (h:x ^^^ z=y ^^^ z):x=y:=by
 have:=congrArg (· ^^^ z) h
 simpa only[Nat.xor_assoc,Nat.xor_self,Nat.xor_zero]using this
theorem MJ {x y z:Nat} (h:z ^^^ x=z ^^^ y):x=y:=Mt (z:=z) (by rw[Nat.xor_comm x,Nat.xor_comm y];exact h)
theorem xor_top (x y:Nat):(x ^^^ y)/268435456=x/268435456 ^^^ y/268435456:=by
 have:=Nat.shiftRight_xor_distrib (a:=x) (b:=y) (i:=28)
 simpa [Nat.shiftRight_eq_div_pow]using this
theorem MB {l e:Nat} (hl:l<16) (he:e<16):nibM l e=(tabQ ((l ^^^ e:Nat):Int)).toNat:=by
 have:=(Kq ⟨l,hl⟩ ⟨e,he⟩).1
 simp only at this
 omega
theorem Ko {r r' c c':Nat} (hr:r<4294967296) (hr':r'<4294967296) (h:nibS r c/268435456=nibS r' c'/268435456):r%16 ^^^ c%16=r'%16 ^^^ c'%16:=by
 unfold nibS at h
 rw[MB (Nat.mod_lt _ odc) (Nat.mod_lt _ odc),MB (Nat.mod_lt _ odc) (Nat.mod_lt _ odc),xor_top,xor_top,show r/16/268435456=0 by omega,show r'/16/268435456=0 by omega,Nat.zero_xor,Nat.zero_xor]at h
 have h1:r%16 ^^^ c%16<16:=Nat.xor_lt_two_pow (n:=4) (Nat.mod_lt _ odc) (Nat.mod_lt _ odc)
 have h2:r'%16 ^^^ c'%16<16:=Nat.xor_lt_two_pow (n:=4) (Nat.mod_lt _ odc) (Nat.mod_lt _ odc)
 exact congrArg Fin.val (tab_top ⟨_,h1⟩ ⟨_,h2⟩ h)
theorem Ns {r r' c c':Nat} (h:nibS r c=nibS r' c') (hi:r%16 ^^^ c%16=r'%16 ^^^ c'%16):r/16=r'/16:=by
 unfold nibS at h
 rw[MB (Nat.mod_lt _ odc) (Nat.mod_lt _ odc),MB (Nat.mod_lt _ odc) (Nat.mod_lt _ odc),hi]at h
 exact Mt h
theorem Jk {r c:Nat} (hr:r<4294967296):nibS r c<4294967296:=Nat.xor_lt_two_pow (n:=32) om (Kq ⟨r%16,Nat.mod_lt _ odc⟩ ⟨c%16,Nat.mod_lt _ odc⟩).2
theorem QZ (r c:Nat):bit8 r c=nibS (nibS r c) (c/16):=by
 unfold bit8
 rw[nib,nib];rfl
theorem Jt {r:Nat} (hr:r<4294967296) (c:Nat):bit8 r c<4294967296:=by rw[QZ];exact Jk (Jk hr)
theorem bit8_state {r r' c:Nat} (hr:r<4294967296) (hr':r'<4294967296) (h:bit8 r c=bit8 r' c):r=r':=by
 rw[QZ,QZ]at h
 have e1:=Ko (Jk hr) (Jk hr') (congrArg (· /268435456) h)
 have e2:=Ns h e1
 have e3:=Mt e1
 have e4:nibS r c=nibS r' c:=om
 have e5:=Ko hr hr' (congrArg (· /268435456) e4)
 have e6:=Ns e4 e5
 have e7:=Mt e5
 omega
theorem bit8_byte {r c c':Nat} (hr:r<4294967296) (hc:c<256) (hc':c'<256) (h:bit8 r c=bit8 r c'):c=c':=by
 rw[QZ,QZ]at h
 have e1:=Ko (Jk hr) (Jk hr) (congrArg (· /268435456) h)
 have e2:=Ns h e1
 have e3:nibS r c/268435456=nibS r c'/268435456:=om
 have e4:=MJ (Ko hr hr e3)
 have e5:nibS r c=nibS r c':=by unfold nibS;rw[e4]
 rw[e5]at e1
 have e6:=MJ e1
 omega
def crcN (r:Nat) (l:List UInt8):Nat:=l.foldl (fun r b=>bit8 r b.toNat) r
theorem MH:∀(l:List UInt8) {r:Nat},r<4294967296→crcN r l<4294967296
 | [],_,h=>h
 | b::l,r,h=>MH l (Jt h _)
theorem sumP_crc:∀(l:List UInt8) {r:Nat},r<4294967296→sumP (r:Int) l=((crcN r l:Nat):Int)
 | [],_,_=>rfl
 | b::l,r,h=>by
   unfold sumP crcN
   rw[List.foldl_cons,List.foldl_cons,(sumS_bit h b).1]
   exact sumP_crc l (Jt h _)
theorem crcN_inj:∀(l:List UInt8) {r r':Nat},r<4294967296→r'<4294967296→crcN r l=crcN r' l→r=r'
 | [],_,_,_,_,h=>h
 | b::l,r,r',h,h',e=>bit8_state h h' (crcN_inj l (Jt h _) (Jt h' _) e)
theorem MR (b:List UInt8):sumF [b]=((4294967295 ^^^ crcN 4294967295 b:Nat):Int):=by
 unfold sumF
 rw[List.foldl_cons,List.foldl_nil,show(4294967295:Int)=((4294967295:Nat):Int)from rfl,sumP_crc b odc,xor32 odc (MH b odc)]
theorem sumF_turn (l1 l2:List UInt8) {x y:UInt8} (h:sumF [l1++x::l2]=sumF [l1++y::l2]):x=y:=by
 rw[MR,MR]at h
 have h1:=MJ (Int.ofNat.inj h)
 have key:∀z:UInt8,crcN 4294967295 (l1++z::l2)=crcN (bit8 (crcN 4294967295 l1) z.toNat) l2:=fun z=>by unfold crcN;rw[List.foldl_append,List.foldl_cons]
 rw[key,key]at h1
 have hc:crcN 4294967295 l1<4294967296:=MH l1 odc
 exact UInt8.toNat_inj.1 (bit8_byte hc x.toNat_lt y.toNat_lt (crcN_inj l2 (Jt hc _) (Jt hc _) h1))
theorem sumF_lt (b:List UInt8):0≤sumF [b]∧sumF [b]<4294967296:=by
 rw[MR]
 have:4294967295 ^^^ crcN 4294967295 b<4294967296:=Nat.xor_lt_two_pow (n:=32) odc (MH b odc)
 omega
theorem byteI_mod {v:Int} (hv:0≤v):((Z4 v).toNat:Int)=v%256:=by
 unfold Z4
 simp;omega
theorem lowB_inj {v w:Int} (hv:0≤v∧v<4294967296) (hw:0≤w∧w<4294967296) (h:lowB v=lowB w):v=w:=by
 unfold lowB at h
 simp only[List.cons.injEq,and_true]at h
 obtain⟨h1,h2,h3,h4⟩:=h
 have k:∀a b:Int,0≤a→0≤b→Z4 a=Z4 b→a%256=b%256:=fun a b ha hb e=>by rw[←byteI_mod ha,←byteI_mod hb,e]
 have k1:=k _ _ om om h1
 have k2:=k _ _ om om h2
 have k3:=k _ _ om om h3
 have k4:=k _ _ om om h4
 omega
theorem XW (b:List UInt8):(Z7 b).length=b.length+12:=by simp[Z7,Yv,lowB]
theorem frameB_set {b c:List UInt8} {i:Nat} {x:UInt8} (h:Z7 c=(Z7 b).set i x):Z7 c=Z7 b:=by
 have hl:c.length=b.length:=by have:=congrArg List.length h;rw[List.length_set,XW,XW]at this;omega
 have key:∀b:List UInt8,Z7 b=Yv b.length++lowB (sumF [Yv b.length])++(b++lowB (sumF [b])):=fun b=>by unfold Z7;rw[List.append_assoc]
 have h8:∀n,(Yv n++lowB (sumF [Yv n])).length=8:=fun n=>by simp[Yv,lowB]
 have hb:c=b:=by
   have e1:(Z7 c).drop 8=c++lowB (sumF [c]):=by rw[key,List.drop_left' (h8 _)]
   have e2:(Z7 b).drop 8=b++lowB (sumF [b]):=by rw[key,List.drop_left' (h8 _)]
   have e3:c++lowB (sumF [c])=if i<8 then b++lowB (sumF [b])else(b++lowB (sumF [b])).set (i-8) x:=by
     rw[←e1,h,List.drop_set,e2]
   by_cases hi:i<8
   ·rw[if_pos hi]at e3;exact(List.append_inj e3 hl).1
   ·rw[if_neg hi]at e3
    by_cases hj:i-8<b.length
    ·rw[List.set_append_left _ _ hj]at e3
     obtain⟨f1,f2⟩:=List.append_inj e3 (by simpa using hl)
     have f3:=lowB_inj (sumF_lt c) (sumF_lt b) f2
     have s1:b=b.take (i-8)++b[i-8]::b.drop (i-8+1):=by rw[List.getElem_cons_drop,List.take_append_drop]
     have s2:c=b.take (i-8)++x::b.drop (i-8+1):=by rw[f1,List.set_eq_take_append_cons_drop,if_pos hj]
     rw[s2,s1]at f3
     have s3:x=b[i-8]:=by
       have t1:(b.take (i-8)++b[i-8]::b.drop (i-8+1)).take (i-8)=b.take (i-8):=by rw[←s1]
       have t2:(b.take (i-8)++b[i-8]::b.drop (i-8+1)).drop (i-8+1)=b.drop (i-8+1):=by rw[←s1]
       rw[t1,t2]at f3
       exact sumF_turn _ _ f3
     rw[s2,s3];exact s1.symm
    ·rw[List.set_append_right _ _ om]at e3
     exact(List.append_inj e3 hl).1
 rw[hb]
theorem ohd {P:Prop} (g:P:=by(try simp only[Pv]);(repeat first | rw[if_pos rfl] | rw[if_pos trivial] | rw[if_neg om]);first | done | rfl):P:=g
theorem rfQ_frame {b:List UInt8} (hb:b.length≤1048576):rfQ (Z7 b)=(b,((8+b.length+4:Nat):Int),0):=by
 have hl:=XW b
 have hN:hd4 (Z7 b)=b.length:=by
   rw[hd4_num om,List.drop_zero]
   have:(Z7 b).take 4=Yv b.length:=by unfold Z7;rw[List.append_assoc,List.append_assoc];rfl
   rw[this,head_num om]
 have d4:(Z7 b).take 4=Yv b.length:=by unfold Z7;rw[List.append_assoc,List.append_assoc];rfl
 have d5:((Z7 b).drop 4).take 4=lowB (sumF [Yv b.length]):=by unfold Z7;rw[List.append_assoc,List.append_assoc];rfl
 have d8:(Z7 b).drop 8=b++lowB (sumF [b]):=by unfold Z7;rw[List.append_assoc,List.append_assoc];rfl
 have d9:(Z7 b).drop (8+b.length)=lowB (sumF [b]):=by rw[←List.drop_drop,d8,List.drop_left]
 have l4:∀v,(lowB v).take 4=lowB v:=fun v=>rfl
 unfold rfQ
 rw[hN]
 unfold rfN
 rw[if_neg om,d5,d4,if_neg osi,if_neg om,if_neg om,d9,d8,List.take_left,l4,if_neg osi]
theorem rbB_B {b:List UInt8} {p most:Nat} {x w:List UInt8} (hx:x.length≤most) (hm:most<18446744073709551616) (hp:p≤b.length) (hd:b.drop p=Zl x++w):rbB b p most=(x,p+(Zl x).length,0):=by
 unfold Zl at hd
 rw[List.append_assoc]at hd
 have e:=ruB_B (v:=x.length) om hp hd
 have hl:=congrArg List.length hd
 simp only[List.length_drop,List.length_append]at hl
 have hu:1≤(Zh x.length).length:=by rw[Zh];split<;>simp
 have d2:b.drop (p+(Zh x.length).length)=x++w:=by rw[←List.drop_drop,hd,List.drop_left]
 unfold rbB
 rw[if_neg om,e]
 simp only
 rw[if_neg osi,if_neg om,if_neg om,d2,List.take_left]
 unfold Zl
 rw[List.length_append,Nat.add_assoc]
theorem X8 {v:Int} (h0:0≤v) (h1:v<18446744073709551616):((u64 v:Nat):Int)=v:=by unfold u64;omega
theorem tokB_len (q:QryE) (t:Int) (row:List UInt8) (h:row.length≤256):(tokB q t row).length≤300:=by
 unfold tokB
 rw[XW]
 have h1:=Zm (Z5 t)
 have h2:=Zm (Z5 (sumF [YD q]))
 have h3:=Zm (v:=row.length) om
 unfold Zl
 simp only[List.length_append]
 omega
theorem readQ_tok {q:QryE} {t:Int} {row:List UInt8} (h:q.token=tokB q t row) (t1:1≤t) (t2:t≤1099511627776) (hq:q.time=0∨q.time=t) (r1:row.length≠0) (r2:row.length≤256) (ha:YU q row=true):ZP q=(t,row,0):=by
 have e0:((u64 t:Nat):Int)=t:=X8 om om
 have hl:=XW (Zh (u64 t)++Zl row++Zh (u64 (sumF [YD q])))
 have h1:=Zm (Z5 t)
 have h2:=Zm (Z5 (sumF [YD q]))
 have h3:=Zm (v:=row.length) om
 have hb:(Zh (u64 t)++Zl row++Zh (u64 (sumF [YD q]))).length≤1048576:=by unfold Zl;simp only[List.length_append];omega
 have er:rfQ q.token=(Zh (u64 t)++Zl row++Zh (u64 (sumF [YD q])),((8+(Zh (u64 t)++Zl row++Zh (u64 (sumF [YD q]))).length+4:Nat):Int),0):=by rw[h];exact rfQ_frame hb
 have eu:=ruB_B (b:=Zh (u64 t)++Zl row++Zh (u64 (sumF [YD q]))) (p:=0) (v:=u64 t) (w:=Zl row++Zh (u64 (sumF [YD q]))) (Z5 t) (Nat.zero_le _) (by rw[List.drop_zero,List.append_assoc])
 rw[Nat.zero_add]at eu
 have eb:=rbB_B (b:=Zh (u64 t)++Zl row++Zh (u64 (sumF [YD q]))) (p:=(Zh (u64 t)).length) (most:=256) (x:=row) (w:=Zh (u64 (sumF [YD q]))) r2 om (by simp only[List.length_append];omega) (by rw[List.append_assoc,List.drop_left])
 unfold ZP
 rw[if_neg (by rw[h];unfold tokB;omega),er]
 simp only
 rw[if_neg osi,eu]
 simp only
 have hu:q.time≠0→u64 t=u64 q.time:=fun hz=>by rw[hq.resolve_left hz]
 rw[if_neg (by
   rintro(a | a | a | ⟨a,b⟩)
   ·exact a rfl
   ·omega
   ·omega
   ·exact b (hu a)),eb]
 simp only
 rw[if_neg (by
   rintro(a | a | a | a)
   ·exact a rfl
   ·exact r1 a
   ·rw[ha]at a;cases a
   ·rw[e0,←h,beq_self_eq_true]at a;cases a),e0]
theorem readQ_is {q:QryE} (h:(ZP q).2.2=0) (h0:q.token≠[]):q.token=tokB q (ZP q).1 (ZP q).2.1:=by
 unfold ZP at h ⊢
 have hl:q.token.length≠0:=fun e=>h0 (List.length_eq_zero_iff.1 e)
 rw[if_neg hl]at h ⊢
 split at h
 ·exact absurd h odc
 rename_i c1
 rw[if_neg c1]
 split at h
 ·exact absurd h odc
 rename_i c2
 rw[if_neg c2]
 split at h
 ·exact absurd h odc
 rename_i c3
 rw[if_neg c3]
 simp only
 have:(tokB q (ruB (rfQ q.token).1 0).1 (rbB (rfQ q.token).1 (ruB (rfQ q.token).1 0).2.1 256).1==q.token)=true:=by
   cases hh:(tokB q (ruB (rfQ q.token).1 0).1 (rbB (rfQ q.token).1 (ruB (rfQ q.token).1 0).2.1 256).1==q.token)
   ·exact absurd (.inr (.inr (.inr hh))) c3
   ·rfl
 exact(eq_of_beq this).symm
theorem readQ_err (q:QryE):(ZP q).2.2=0∨(ZP q).2.2=132:=by
 unfold ZP
 split
 ·exact .inl rfl
 split
 ·exact .inr rfl
 split
 ·exact .inr rfl
 split
 ·exact .inr rfl
 ·exact .inl rfl
theorem readQ_turn {q:QryE} {q0:QryE} {t:Int} {row:List UInt8} {i:Nat} {c:UInt8} (h:q.token=(tokB q0 t row).set i c) (hf:YD q=YD q0) (hne:q.token≠tokB q0 t row):(ZP q).2.2=132:=by
 rcases readQ_err q with e | e
 ·exfalso
  have hl:(tokB q0 t row).length≠0:=by unfold tokB;rw[XW];omega
  have h0:q.token≠[]:=fun e=>by rw[e]at h;exact hl (by rw[←List.length_set,←h];rfl)
  have hi:=readQ_is e h0
  rw[h]at hi
  unfold tokB at hi
  have:=frameB_set hi.symm
  apply hne
  rw[h]
  unfold tokB
  rw[hi];exact this
 ·exact e
def dirB (rev:Bool) (a b:List UInt8):Prop:=if rev then Lib.compareBytes b a<0 else Lib.compareBytes a b<0
instance (rev:Bool) (a b:List UInt8):Decidable (dirB rev a b):=by unfold dirB;infer_instance
def Vn (nf:Nat) (x:RowE):Prop:=x.row.length≠0∧x.row.length≤256∧Ws nf x.cells=false
def visB (q:QryE) (t:Option Tst) (x:RowE):Bool:=YU q x.row&&decide (Yk q t x.cells≠[])
def visR (q:QryE) (t:Option Tst) (x:RowE):RowE:=⟨x.row,Yk q t x.cells⟩
def visL (q:QryE) (t:Option Tst) (l:List RowE):List RowE:=(l.filter (visB q t)).map (visR q t)
def XA (q:QryE) (start:List UInt8) (has:Bool) (row:List UInt8):Bool:= !has||(if q.rev then decide (Lib.compareBytes row start<0)else decide (0≤Lib.compareBytes row start))
theorem dirB_tr {rev:Bool} {a b c:List UInt8} (h:dirB rev a b) (h':dirB rev b c):dirB rev a c:=by
 unfold dirB at*
 cases rev
 ·simp only[Bool.false_eq_true,if_false]at *;exact QP h om
 ·simp only[if_true]at *;exact QP h' om
theorem dirB_irr {rev:Bool} {a:List UInt8} (h:dirB rev a a):False:=by
 have:=(U7 a a).2 rfl
 unfold dirB at h
 cases rev
 ·simp only[Bool.false_eq_true,if_false]at h;omega
 ·simp only[if_true]at h;omega
theorem beyond_on {q:QryE} {a b:List UInt8} (h:dirB q.rev a b) (ha:Wx q a=true):Wx q b=true:=by
 unfold Wx dirB at*
 cases hr:q.rev
 ·rw[hr]at h ha
  simp only[Bool.false_eq_true,if_false]at h
  simp only[Bool.not_false,Bool.true_and,Bool.false_and,Bool.or_false,Bool.and_eq_true,decide_eq_true_eq]at ha ⊢
  refine⟨ha.1,?_⟩
  have a1:=cb_ge.1 ha.2
  have:=cb_neg.1 (cb_le_lt a1 h)
  omega
 ·rw[hr]at h ha
  simp only[if_true]at h
  simp only[Bool.not_true,Bool.false_and,Bool.false_or,Bool.true_and,decide_eq_true_eq]at ha ⊢
  exact QP h om
section
variable {nf:Nat} {q:QryE} {t:Option Tst} {tk:List UInt8→List UInt8} {start:List UInt8} {has:Bool}
theorem comes_of {x:RowE} (hx:Vn nf x) (ha:XA q start has x.row=true) {last:Option (List UInt8)} (hl:∀r,last=some r→dirB q.rev r x.row):NS nf q x last start has=true:=by
 obtain⟨h1,h2,h3⟩:=hx
 unfold NS
 unfold XA at ha
 rw[decide_eq_false om,h3,ha]
 cases last with
 | none=>rfl
 | some r=>
   have:=hl r rfl
   unfold dirB at this
   cases hr:q.rev
   ·rw[hr]at this
    simp only[Bool.false_eq_true,if_false]at this ⊢
    have:=cb_neg.1 this
    simp[this]
   ·rw[hr]at this
    simp only[if_true]at this ⊢
    simp[this]
def JR (q:QryE) (tk:List UInt8→List UInt8) (v:List RowE):PgE:=
 if (v.length:Int)<q.rows then⟨v,[],true⟩else⟨v.take q.rows.toNat,tk (v.getD (q.rows.toNat-1) default).row,false⟩
theorem MX (hs : Jf q start has) : ∀ (l : List RowE) (m : Nat) (last : Option (List UInt8)) (acc : List RowE), (∀ x ∈ l, Vn nf x ∧ XA q start has x.row = true) →
   l.Pairwise (fun a b=>dirB q.rev a.row b.row)→(∀r,last=some r→∀x∈l,dirB q.rev r x.row)→(acc.length:Int)<q.rows→
   ∃m',runG nf q t tk start has 0 m last acc l=(JR q tk (acc++visL q t l),m',0)
 | [],m,last,acc,_,_,_,hk=>by
   refine⟨m+1,?_⟩
   unfold runG JR visL
   simp only[List.filter_nil,List.map_nil,List.append_nil]
   rw[if_neg osi,if_pos hk]
 | x::l,m,last,acc,hg,hp,hl,hk=>by
   obtain⟨hx,ha⟩:=hg x osi
   have hc0:=comes_of (last:=none) hx ha (fun r h=>by cases h)
   have hc:YR q x.row last start has=true∧Ws nf x.cells=false:=by
     refine⟨?_,hx.2.2⟩
     unfold YR
     rw[if_neg (by have:=hx.1;have:=hx.2.1;omega)]
     cases last with
     | none=>
       unfold XA at ha
       cases has with
       | false=>simp
       | true=>cases hr:q.rev<;>rw[hr]at ha<;>simpa using ha
     | some r=>
       have:=hl r rfl x osi
       unfold dirB at this
       cases hr:q.rev
       ·rw[hr]at this
        simp only[Bool.false_eq_true,if_false]at this ⊢
        simpa using cb_neg.1 this
       ·rw[hr]at this
        simp only[if_true]at this ⊢
        simpa using this
   have hb:=Md hs hc0
   have hg2:∀y∈l,Vn nf y∧XA q start has y.row=true:=fun y hy=>hg y (by simp[hy])
   have hp1:=(List.pairwise_cons.1 hp).1
   have hp2:=(List.pairwise_cons.1 hp).2
   have hl2:∀r,some x.row=some r→∀y∈l,dirB q.rev r y.row:=fun r hr y hy=>by cases hr;exact hp1 y hy
   unfold runG
   rw[if_neg (by rw[hc.1];simp),if_neg (by rw[hc.2];simp)]
   by_cases hy:Wx q x.row=true
   ·rw[if_pos hy]
    have hall:∀y∈x::l,visB q t y=false:=fun y hm=>by
      have e:YU q y.row=false:=by
        rcases List.mem_cons.1 hm with rfl | hm
        ·rw[hy]at hb;simpa using hb
        ·have h1:=beyond_on (hp1 y hm) hy
         have h2:=Md hs (comes_of (last:=none) (hg2 y hm).1 (hg2 y hm).2 (fun r h=>by cases h))
         rw[h1]at h2;simpa using h2
      unfold visB;rw[e];rfl
    have hv:visL q t (x::l)=[]:=by
      unfold visL
      rw[List.filter_eq_nil_iff.2 fun y hm=>by rw[hall y hm];simp];rfl
    refine⟨m+1,?_⟩
    unfold JR
    rw[hv,List.append_nil,if_pos hk]
   ·rw[if_neg hy]
    have hask:YU q x.row=true:=by
      cases h:YU q x.row
      ·rw[h]at hb;exact absurd osb hy
      ·rfl
    by_cases he:Yk q t x.cells=[]
    ·rw[if_pos he]
     have hv:visL q t (x::l)=visL q t l:=by
       unfold visL
       rw[List.filter_cons_of_neg (by unfold visB;rw[hask,he];simp)]
     rw[hv]
     exact MX hs l (m+1) (some x.row) acc hg2 hp2 hl2 hk
    ·rw[if_neg he]
     have hv:visL q t (x::l)=visR q t x::visL q t l:=by
       unfold visL
       rw[List.filter_cons_of_pos (by unfold visB;rw[hask,decide_eq_true he];rfl),List.map_cons]
     by_cases hr:((acc.length+1:Nat):Int)=q.rows
     ·rw[if_pos hr]
      refine⟨m+1,?_⟩
      have hn:q.rows.toNat=acc.length+1:=om
      have hlt:¬((acc++visL q t (x::l)).length:Int)<q.rows:=by rw[hv,List.length_append,List.length_cons];omega
      unfold JR
      rw[if_neg hlt,hv,hn]
      have e1:(acc++visR q t x::visL q t l).take (acc.length+1)=acc++[visR q t x]:=by rw[List.take_append,List.take_of_length_le om];simp
      have e2:(acc++visR q t x::visL q t l).getD (acc.length+1-1) default=visR q t x:=by simp[List.getD]
      rw[e1,e2];rfl
     ·rw[if_neg hr]
      have:=MX hs l (m+1) (some x.row) (acc++[visR q t x]) hg2 hp2 hl2 (by rw[List.length_append];simp;omega)
      rw[hv]
      rw[List.append_assoc,List.singleton_append]at this
      exact this
end
def dirL (q:QryE) (l:List RowE):List RowE:=if q.rev then l.reverse else l
def Wq (q:QryE) (l:List RowE):List RowE:=(dirL q l).filter fun x=>XA q (Zv q).1 (Zv q).2.1 x.row
def upL (l:List RowE):Prop:=l.Pairwise fun a b=>Lib.compareBytes a.row b.row<0
theorem dirL_up {q:QryE} {l:List RowE} (h:upL l):(dirL q l).Pairwise fun a b=>dirB q.rev a.row b.row:=by
 unfold dirL dirB
 cases q.rev
 ·simp only[Bool.false_eq_true,if_false];exact h
 ·simp only[if_true]
  rw[List.pairwise_reverse];exact h
theorem QN {q:QryE} {l:List RowE} {x:RowE}:x∈dirL q l↔x∈l:=by
 unfold dirL;split
 ·exact List.mem_reverse
 ·exact Iff.rfl
def allV (q:QryE) (t:Option Tst) (l:List RowE):List RowE:=visL q t (dirL q l)
theorem visL_up {q:QryE} {t:Option Tst} {l:List RowE} (h:l.Pairwise fun a b=>dirB q.rev a.row b.row):(visL q t l).Pairwise fun a b=>dirB q.rev a.row b.row:=by
 unfold visL
 rw[List.pairwise_map]
 exact h.sublist List.filter_sublist
theorem allV_up {q:QryE} {t:Option Tst} {l:List RowE} (h:upL l):(allV q t l).Pairwise fun a b=>dirB q.rev a.row b.row:=visL_up (dirL_up h)
theorem visL_from {q:QryE} {t:Option Tst} {l:List RowE}:visL q t (Wq q l)=(allV q t l).filter fun y=>XA q (Zv q).1 (Zv q).2.1 y.row:=by
 unfold visL Wq allV visL
 rw[List.filter_map,List.filter_filter,List.filter_filter]
 congr 1
 exact List.filter_congr fun x _=>by rw[Bool.and_comm];rfl
theorem cb_snoc0 (x r:List UInt8):0≤Lib.compareBytes x (r++[0])↔Lib.compareBytes r x<0:=by
 induction r generalizing x with
 | nil=>
   cases x with
   | nil=>simp[Lib.compareBytes]
   | cons a x=>
     show 0≤(if a<0 then(-1:Int)else if 0<a then 1 else Lib.compareBytes x [])↔(-1:Int)<0
     have h0:¬a<0:=osi
     rw[if_neg h0]
     have:=cb_nil x
     split<;>simp_all
 | cons b r ih=>
   cases x with
   | nil=>simp[Lib.compareBytes]
   | cons a x=>
     rw[List.cons_append,Jr,Jr]
     by_cases h1:a<b
     ·have h2:¬b<a:=fun h=>absurd (UInt8.lt_trans h1 h) (UInt8.lt_irrefl _)
      rw[if_pos h1,if_neg h2,if_pos h1];decide
     ·rw[if_neg h1]
      by_cases h2:b<a
      ·rw[if_pos h2,if_pos h2];decide
      ·rw[if_neg h2,if_neg h2,if_neg h1];exact ih x
theorem from_none {q:QryE} {t:Option Tst} {l:List RowE} (h:q.token=[]):visL q t (Wq q l)=allV q t l:=by
 rw[visL_from]
 refine List.filter_eq_self.2 fun y hy=> ?_
 have hr:ZP q=(0,[],0):=by unfold ZP;rw[if_pos (by rw[h];rfl)]
 have ha:YU q y.row=true:=by
   unfold allV visL at hy
   obtain⟨x,hx,rfl⟩:=List.mem_map.1 hy
   have:=(List.mem_filter.1 hx).2
   unfold visB at this
   simp only[Bool.and_eq_true]at this
   exact this.1
 unfold YU at ha
 simp only[Bool.and_eq_true,Bool.or_eq_true,decide_eq_true_eq]at ha
 unfold XA Zv
 rw[hr]
 simp only
 rw[if_neg osi,if_neg osi]
 cases hv:q.rev
 ·simp only[Bool.false_eq_true,if_false]
  simp[ha.1]
 ·simp only[if_true]
  rcases ha.2 with h1 | h1
  ·simp[h1]
  ·simp[h1]
theorem from_tok {q:QryE} {t:Option Tst} {l:List RowE} {tm:Int} {r:List UInt8} (h:ZP q=(tm,r,0)) (h1:1≤tm):visL q t (Wq q l)=(allV q t l).filter fun y=>decide (dirB q.rev r y.row):=by
 rw[visL_from]
 refine List.filter_congr fun y _=> ?_
 unfold XA Zv dirB
 rw[h]
 simp only
 rw[if_neg osi,if_pos om]
 cases hv:q.rev
 ·simp only[Bool.false_eq_true,if_false,Bool.not_true,Bool.false_or]
  exact decide_eq_decide.2 (cb_snoc0 _ _)
 ·simp
theorem JF {α:Type} {R:α→α→Prop} [DecidableRel R] (tr:∀a b c,R a b→R b c→R a c) (ir:∀a,¬R a a):∀(V:List α) (j:Nat) (hj:j<V.length),V.Pairwise R→V.filter (fun y=>decide (R V[j] y))=V.drop (j+1)
 | [],j,hj,_=>by simp at hj
 | a::V,0,_,h=>by
   obtain⟨h1,h2⟩:=List.pairwise_cons.1 h
   simp only[List.getElem_cons_zero,List.drop_succ_cons,List.drop_zero]
   rw[List.filter_cons_of_neg (by simp[ir a])]
   exact List.filter_eq_self.2 fun y hy=>decide_eq_true (h1 y hy)
 | a::V,j+1,hj,h=>by
   obtain⟨h1,h2⟩:=List.pairwise_cons.1 h
   simp only[List.getElem_cons_succ,List.drop_succ_cons]
   have hj':j<V.length:=by simpa using hj
   have hn:¬R V[j] a:=fun e=>ir _ (tr _ _ _ e (h1 V[j] (List.getElem_mem hj')))
   rw[List.filter_cons_of_neg (by simp[hn])]
   exact JF tr ir V j hj' h2
theorem from_at {q:QryE} {t:Option Tst} {l:List RowE} {tm:Int} {j:Nat} (hl:upL l) (hj:j<(allV q t l).length) (h:ZP q=(tm,(allV q t l)[j].row,0)) (h1:1≤tm):visL q t (Wq q l)=(allV q t l).drop (j+1):=by
 rw[from_tok h h1]
 exact JF (R:=fun a b:RowE=>dirB q.rev a.row b.row) (fun a b c=>dirB_tr) (fun a=>dirB_irr) _ j hj (allV_up hl)
theorem run_from {fs : List Fml} {q : QryE} {clock : Int} {l : List RowE} (hq : qcE fs q = 0) (hc : 1 ≤ clock ∧ clock ≤ 1099511627776) (hl : upL l) (hg : ∀ x ∈ l, Vn fs.length x) :
   ∃m,runE fs q clock (some (Wq q l,0))=(JR q (tokB q (atE q clock).1) (visL q (YE fs q) (Wq q l)),m,0):=by
 have hr:(ZP q).2.2=0:=by
   unfold qcE at hq
   split at hq
   ·rename_i h;exact absurd hq h
   split at hq
   ·exact absurd hq odc
   split at hq
   ·rename_i h;exact absurd hq h.2
   ·exact hq
 have hrows:1≤q.rows:=by
   unfold qcE at hq
   split at hq
   ·rename_i h;exact absurd hq h
   split at hq
   ·exact absurd hq odc
   rename_i h
   have h:Ym fs.length q=true:=by simpa using h
   unfold Ym VN at h
   simp only[Bool.and_eq_true,decide_eq_true_eq]at h
   omega
 have ha:(atE q clock).2=0:=by
   unfold atE
   rw[if_neg om,if_neg (by rw[hr];simp)]
   split
   ·rfl
   ·split<;>rfl
 unfold runE
 rw[if_neg (by rw[hq];simp),if_neg (by rw[ha];simp)]
 obtain⟨m,hm⟩:=MX (nf:=fs.length) (t:=YE fs q) (tk:=tokB q (atE q clock).1) (startE_ok q hr) (Wq q l) 0 none []
   (fun x hx=>by
     obtain⟨h1,h2⟩:=List.mem_filter.1 hx
     exact⟨hg x (QN.1 h1),h2⟩)
   ((dirL_up hl).sublist List.filter_sublist) (fun r h=>by cases h) oz
 exact⟨m,hm⟩
end Go.Proofs.YtkmkbndcekklmaaGreatDoor
set_option maxRecDepth 10000
namespace Go.Proofs.YtkmkbndcekklmaaGreatDoor
open Go Go.Sx Go.Rt Go.Proofs Tryz
def QA (q:QryE):QryE:={q with token:=[],rows:=1000}
def qBare (q:QryE):QryE:={QA q with fams:=[],whr:=[]}
def qZero (b:Bool):QryE:={frm:=[],to:=[],fams:=[],pre:=[],time:=0,n:=1,rows:=1000,rev:=b,whr:=[],token:=[]}
def Qi (fs:List Fml) (q:QryE):QryE:=
 if qcE fs (QA q)=0 then QA q else if qcE fs (qBare q)=0 then qBare q else qZero q.rev
theorem JQ {q:QryE} (h:q.fine):(QA q).fine:=⟨h.frm,h.to,h.fams,h.pre,h.whr,Nat.zero_le _⟩
theorem Ng {q:QryE} (h:q.fine):(qBare q).fine:=⟨h.frm,h.to,Nat.zero_le _,h.pre,Nat.zero_le _,Nat.zero_le _⟩
theorem X3 (fs:List Fml) (q:QryE):(Qi fs q).token=[]:=by unfold Qi;split;rfl;split<;>rfl
theorem qZero_good {fs:List Fml} (h:ZC fs=0) (b:Bool):qcE fs (qZero b)=0:=by
 unfold qcE
 rw[if_neg (by simp[h]),if_neg (by cases b<;>simp[Ym,Qj,Ur,VN,qZero]),if_neg (by rintro⟨a,_⟩;simp[qZero]at a)]
 rfl
theorem goodE_good {fs:List Fml} (h:ZC fs=0) (q:QryE):qcE fs (Qi fs q)=0:=by
 unfold Qi
 split
 ·assumption
 ·split
  ·assumption
  ·exact qZero_good h _
theorem wk_qa {q:QryE} {f t m p k:AV} (hf:Wk f (bys q.frm)) (ht:Wk t (bys q.to)) (hm:Wk m (Zx q.fams)) (hp:Wk p (bys q.pre)) (hk:Wk k (bys q.token)):WkL [qaX q f t m p k] [Zf q]:=
 ⟨Wk.agg ⟨hf,ht,hm,hp,.refl _,.refl _,.refl _,.refl _,.refl _,hk,trivial⟩,trivial⟩
theorem NT40.eqs {P Q:Prop} (g:Imp P Q:=by(try simp only[go_sem,seval,hszs,hags,hmos,hnum,hnua,hnum2,hszq,hagq,hmoq,f1,f2,f3,f4,f5,f6,b1,b2,b3]);exact Imp.rf):Imp P Q:=g
set_option maxHeartbeats 3200000 in
open NT40 NY in
theorem KG (fs:List Fml) (hfs:fs.length≤1048576) (q:QryE) (hq:q.fine) {H:Heap} {n:Nat}:Ret prog 13 [Zi fs,Zf q] H n (Zf (Qi fs q)) H n:=by
 have hszs:(Zi fs).sz=1:=rfl
 have hags:(Zi fs).isAgg=true:=rfl
 have hmos:(Zi fs).memOK=true:=rfl
 have hszq:∀q,(Zf q).sz=10:=Z9
 have hagq:∀q,(Zf q).isAgg=true:=fun _=>rfl
 have hmoq:∀q,(Zf q).memOK=true:=fun _=>rfl
 have hnum:∀l,(Zx l).sz=1:=fun _=>rfl
 have hnua:∀l,(Zx l).isAgg=false:=fun _=>rfl
 have hnum2:∀l,(Zx l).memOK=true:=fun _=>rfl
 have f1:(n=n+1)=False:=osi
 have f2:(n+1=n)=False:=osi
 have f3:(n=n+2)=False:=osi
 have f4:(n+1=n+2)=False:=osi
 have f5:(n+2=n)=False:=osi
 have f6:(n+2=n+1)=False:=osi
 have b1:=hszs
 have b2:=hszs
 have b3:=hszs
 obtain⟨z,hz⟩:∃z,z=Qi fs q:=⟨_,rfl⟩
 rw[←hz]
 unfold Qi at hz
 refine Ret.fin ?_
 refine fw func13 ntmps13 results13 ?_
 refine rg zs [2,3,4] ?_
 refine rk zs [2,3,4] fun K J=> ?_
 refine ck func32 ((Pi q hq _ _)) ?_
 apply J;clear J K
 refine Ze zs [2,3,4] fun K J=> ?_
 try simp only[go_sem,seval,hszs,hags,hmos,hnum,hnua,hnum2,hszq,hagq,hmoq,f1,f2,f3,f4,f5,f6,b1,b2,b3,Zf]
 repeat refine peel ?_
 apply J;clear J K
 refine Ze zs [2,3,4] fun K J=> ?_
 try simp only[go_sem,seval,hszs,hags,hmos,hnum,hnua,hnum2,hszq,hagq,hmoq,f1,f2,f3,f4,f5,f6,b1,b2,b3,Zf]
 repeat refine peel ?_
 apply J;clear J K
 refine Z6 [2,3,4] (fun T' H' n'=>∃(a:AV) (q2:QryE) (o:AV),T'=tl [(2,.loc n 0 0 0 []),(3,.loc (n+1) 0 0 0 []),(4,.loc (n+2) 0 0 0 [])]∧H' n=some (.arr 0 1 [Zi fs])∧H' (n+1)=some (.arr 0 10 [qaX q2 (bys q2.frm) (bys q2.to) a (bys q2.pre) (bys q2.token)])∧Wk a (Zx q2.fams)∧q2.fine∧(z=if qcE fs q2=0 then q2 else qZero q.rev)∧q2.rev=q.rev∧H' (n+2)=some (.arr 0 10 [o])∧o.sz=10∧(∀k,k<n→H' k=H k)∧n'=n+3) ?_ ?_
 ·refine VW (n+1) (els:=[qaX (QA q) (bys q.frm) (bys q.to) (Zx q.fams) (bys q.pre) .nilsl]) (els':=[Zf (QA q)]) ohd (wk_qa (.refl _) (.refl _) (.refl _) (.refl _) (.nilsl 1)) ?_
  refine rk zs [2,3,4,12] fun K J=> ?_
  refine ck func38 ((JG fs hfs (QA q) (JQ hq) _ _)) ?_
  apply J;clear J K
  refine Zb ?_ ?_<;>intro hb
  ·have h1:¬qcE fs (QA q)=0:=osb
   rw[if_neg h1]at hz
   refine Ze zs [2,3,4] fun K J=> ?_
   try simp only[go_sem,seval,hszs,hags,hmos,hnum,hnua,hnum2,hszq,hagq,hmoq,f1,f2,f3,f4,f5,f6,b1,b2,b3,Zf,QA]
   repeat refine peel ?_
   apply J;clear J K
   refine rg1 zs [2,3,4] ?_
   refine ns ?_
   first
   | (refine ⟨.nilsl, qBare q, .agg [.nilsl, .nilsl, .nilsl, .nilsl, .int .i64 0, .int .i64 0, .int .i64 0, .bool false, .str [], .nilsl], ?_⟩
      (repeat' apply And.intro)<;>first | rfl | exact .refl _ | exact .nilsl 1 | exact(Wk.nilsl 1).2 | exact fun _ _ _ h=>h | exact JQ hq | exact Ng hq | exact hz | (rw[if_pos h1];exact hz) | (intro k hk;exact oh) | ((try simp only[Pv]);(repeat first | rw[if_pos rfl] | rw[if_pos trivial] | rw[if_neg om]);first | done | rfl))
  have h1:qcE fs (QA q)=0:=osb
  rw[if_pos h1]at hz
  refine ak ?_
  refine ns ?_
  first
  | (refine ⟨Zx q.fams, QA q, .agg [.nilsl, .nilsl, .nilsl, .nilsl, .int .i64 0, .int .i64 0, .int .i64 0, .bool false, .str [], .nilsl], ?_⟩; have h7 := h1
     (repeat' apply And.intro)<;>first | rfl | exact .refl _ | exact .nilsl 1 | exact(Wk.nilsl 1).2 | exact fun _ _ _ h=>h | exact JQ hq | exact Ng hq | exact hz | (rw[if_pos h1];exact hz) | (intro k hk;exact oh) | ((try simp only[Pv]);(repeat first | rw[if_pos rfl] | rw[if_pos trivial] | rw[if_neg om]);first | done | rfl))
 rintro T8 H8 n8 ⟨a,q2,o,rfl,b1,b2,hwk,hq2,hz2,hrv,b3,ho,hlow,rfl⟩
 refine Za fun K1 hK1=> ?_
 refine VW (n+1) (els':=[Zf q2]) b2 (wk_qa (.refl _) (.refl _) hwk (.refl _) (.refl _)) ?_
 refine rk zs [3,4,18] fun K J=> ?_
 refine ck func38 ((JG fs hfs q2 hq2 _ _)) ?_
 apply J;clear J K
 refine Zb ?_ ?_<;>intro hb
 ·have h2:¬qcE fs q2=0:=osb
  rw[if_neg h2]at hz2
  refine Ze zs [4] fun K J=> ?_
  try simp only[go_sem,seval,hszs,hags,hmos,hnum,hnua,hnum2,hszq,hagq,hmoq,f1,f2,f3,f4,f5,f6,b1,b2,b3,Zf,b3,ho,hrv]
  repeat refine peel ?_
  apply J;clear J K
  refine ar ?_
  rw[hz2]
  exact⟨_,rfl,fun k hk=>ohx (hlow k hk),.agg (.cons .nilsl (.cons .nilsl (.cons .nilsl (.cons .nilsl (.cons (.kl trivial) (.cons (.kl trivial) (.cons (.kl trivial) (.cons (.kl trivial) (.cons (.kl trivial) (.cons .nilsl .nil))))))))))⟩
 have h2:qcE fs q2=0:=osb
 rw[if_pos h2]at hz2
 refine ak ?_
 apply hK1
 refine kag ?_
 rw[hz2]
 exact⟨_,rfl,fun k hk=>ohx (hlow k hk),.kl (kl_qry _ _)⟩
theorem NT41.eqs {P Q:Prop} (g:Imp P Q:=by(try simp only[go_sem,seval,hnum,hnua,hnum2,hszq,hagq,hmoq,f1,f2,Zf]);exact Imp.rf):Imp P Q:=g
theorem dirL_take {q:QryE} {l:List RowE} {i:Nat} (h:i<l.length) (p:RowE→Bool):((dirL q l).take (i+1)).filter p=((dirL q l).take i).filter p++(if p ((dirL q l).getD i default)then[(dirL q l).getD i default]else[]):=by
 have hl:(dirL q l).length=l.length:=by unfold dirL;split<;>simp
 rw[List.take_succ_eq_append_getElem om,List.filter_append]
 congr 1
 have e:(dirL q l).getD i default=(dirL q l)[i]'om:=by simp[List.getD,hl,h]
 rw[e]
 simp[List.filter_cons]
theorem dirL_at {q:QryE} {l:List RowE} {i:Nat} (h:i<l.length):(dirL q l).getD i default=if q.rev then l.getD (l.length-1-i) default else l.getD i default:=by
 unfold dirL
 cases q.rev
 ·rfl
 ·simp only[if_true]
  simp[List.getD,List.getElem?_reverse h]
theorem NT42.eqs {P Q:Prop} (g:Imp P Q:=by(try simp only[go_sem,seval,hnum,hnua,hnum2,hszq,hagq,hmoq,hszr,hagr,hmor,b1,b2,hnth,hn2,e1,e2,e3,g1,g2,hse,YY,Nat.add_assoc,List.length_map,Int.toNat_natCast,Zt]);exact Imp.rf):Imp P Q:=g
theorem NT42.sd {P:Prop} (g:P:=by first | (intro _ h8 h9;rw[h8,h9];rfl) | (intro _ h8;rw[h8];rfl) | exact⟨om,om⟩ | exact⟨rfl,by(simp[AV.sz,AV.szs,AV.memOK,hszr,hmor];first | done | fail)⟩ | exact⟨Nat.le_refl _,.inr trivial,om,om⟩ | fail):P:=g
set_option maxHeartbeats 6400000 in
open NT42 NZ in
theorem c_law13_from (q:QryE) (hq:q.fine) (hr0:(ZP q).2.2=0) (l:List RowE) (hl:YG l) {H:Heap} {n:Nat} (hG:GOK 1 1 H n):Ret prog 15 [Zf q,.sl 2 (l.map Zg)] H n (.tup [.sl 2 ((Wq q l).map Zg),.bool true]) H n:=by
 have hszq:∀q,(Zf q).sz=10:=Z9
 have hagq:∀q,(Zf q).isAgg=true:=fun _=>rfl
 have hmoq:∀q,(Zf q).memOK=true:=fun _=>rfl
 have hnum:∀l,(Zx l).sz=1:=fun _=>rfl
 have hnua:∀l,(Zx l).isAgg=false:=fun _=>rfl
 have hnum2:∀l,(Zx l).memOK=true:=fun _=>rfl
 have hszr:∀r,(Zg r).sz=2:=VE
 have hagr:∀r,(Zg r).isAgg=true:=fun _=>rfl
 have hmor:∀r,(Zg r).memOK=true:=fun _=>rfl
 have hls:=hl.1
 have hse:(Zv q).2.2=0:=by unfold Zv;rw[if_neg (by simp[hr0])];split;rfl;split<;>rfl
 have b1:=hls
 have b2:=hls
 have hnth:=hls
 have hn2:=hls
 have e1:=hls
 have e2:=hls
 have e3:=hls
 have g1:=hls
 have g2:=hls
 have hge:∀a b:List UInt8,(!Op.bytesLess a b)=decide (0≤Lib.compareBytes a b):=fun a b=>by
   rw[(WU a b).2,Bool.eq_iff_iff];simp
 have hlt:∀a b:List UInt8,Op.bytesLess a b=decide (Lib.compareBytes a b<0):=fun a b=>(WU a b).2
 obtain⟨F,hF⟩:∃F:Nat→List RowE,F=fun i=>((dirL q l).take i).filter fun x=>XA q (Zv q).1 (Zv q).2.1 x.row:=⟨_,rfl⟩
 have hFl:∀i,(F i).length≤i:=fun i=>by rw[hF];exact Nat.le_trans (List.length_filter_le _ _) (by rw[List.length_take];omega)
 refine Ret.fin ?_
 refine fw func15 ntmps15 results15 ?_
 refine rg zs [1,2] ?_
 refine rk zs [1,2,6,7,8] fun K J=> ?_
 refine ck func24 ((JE hq (hG.on (fun k hk=>oh) om) (QL.ro q _))) ?_
 apply J;clear J K
 refine Za fun K1 hK1=> ?_
 refine rk zs [1,2,6,7,22] fun K J=> ?_
 refine ck func20 ((Uf _ _ _)) ?_
 apply J;clear J K
 refine Zb ?_ ?_<;>intro hb
 ·exact absurd hb osi
 refine ak ?_
 apply hK1
 refine rg zs [1,2,6,7,9] ?_
 refine Za fun K2 hK2=> ?_
 refine rg zs [1,2,6,7,9,10] ?_
 refine kbM ?_
 refine ZX 9 2 rfl ?_
 refine Yl [1,2,6,7,9,10] ?_
 refine ns ?_
 refine Zo (fun T' H' n'=>∃(i ver:Nat),i≤l.length∧T'=tl [(1,.sl 2 (l.map Zg)),(2,.loc n 0 0 0 []),(6,bys (Zv q).1),(7,.bool (Zv q).2.1),(9,.osl (n+1) ver 0 (F i).length),(10,.int .i64 i)]∧H' n=some (.arr 0 10 [Zf q])∧H' (n+1)=some (.arr ver 2 ((F i).map Zg))∧(∀k,k<n→H' k=H k)∧n+2≤n') (fun T' _ _=>l.length-iv (T' 10)) ?_ ?_
 ·exact⟨0,0,Nat.zero_le _,by rw[hF];rfl,oh,by rw[hF];refine ohx ?_;rfl,fun k hk=>oh,om⟩
 rintro T1 H1 n1 ⟨i,ver,hi,rfl,b1,b2,hlow,hn1⟩
 refine Za fun K3 hK3=> ?_
 refine rg zs [1,2,6,7,9,10,26] ?_
 refine Zb ?_ ?_<;>intro hb
 ·have hci:i<l.length:=ott
  have hnth:nth (l.map Zg) i=Zg (l.getD i default):=Zw Zg l i hci
  have hn2:nth (l.map Zg) (l.length-1-i)=Zg (l.getD (l.length-1-i) default):=Zw Zg l _ om
  have e1:IntKind.i64.wrap ((i:Int)+1)=((i+1:Nat):Int):=w1 om
  have e2:IntKind.i64.wrap ((l.length:Int)-1)=((l.length-1:Nat):Int):=by rw[w64 om om];omega
  have e3:IntKind.i64.wrap (((l.length-1:Nat):Int)-(i:Int))=((l.length-1-i:Nat):Int):=by rw[w64 om om];omega
  have g1:(n=n1)=False:=oz
  have g2:(n+1=n1)=False:=oz
  have hst:=dirL_take (q:=q) hci (fun x=>XA q (Zv q).1 (Zv q).2.1 x.row)
  have hF1:F (i+1)=F i++(if XA q (Zv q).1 (Zv q).2.1 ((dirL q l).getD i default).row then[(dirL q l).getD i default]else[]):=by rw[hF];exact hst
  have hda:=dirL_at (q:=q) hci
  have hFi:=hFl i
  obtain⟨x,hx⟩:∃x,x=(dirL q l).getD i default:=⟨_,rfl⟩
  rw[←hx]at hF1 hda
  refine ak ?_
  apply hK3
  refine Z6 [1,2,6,7,9,10] (fun T' H' n'=>∃ver,T'=tl [(1,.sl 2 (l.map Zg)),(2,.loc n 0 0 0 []),(6,bys (Zv q).1),(7,.bool (Zv q).2.1),(9,.osl (n+1) ver 0 (F (i+1)).length),(10,.int .i64 i)]∧H' n=some (.arr 0 10 [Zf q])∧H' (n+1)=some (.arr ver 2 ((F (i+1)).map Zg))∧(∀k,k<n→H' k=H k)∧n+2≤n') ?_ ?_
  ·refine kbM ?_
   refine rg zs [1,2,6,7,9,10,11] ?_
   refine Z6 [1,2,6,7,9,10,11] (fun T' H' n'=>T'=tl [(1,.sl 2 (l.map Zg)),(2,.loc n 0 0 0 []),(6,bys (Zv q).1),(7,.bool (Zv q).2.1),(9,.osl (n+1) ver 0 (F i).length),(10,.int .i64 i),(11,.loc n1 0 0 0 [])]∧H'=H1.put n1 (some (.arr 0 2 [Zg x]))∧n'=n1+1) ?_ ?_
   ·refine Ze zs [1,2,6,7,9,10,11,34] fun K J=> ?_
    try simp only[go_sem,seval,hnum,hnua,hnum2,hszq,hagq,hmoq,hszr,hagr,hmor,b1,b2,hnth,hn2,e1,e2,e3,g1,g2,hse,YY,Nat.add_assoc,List.length_map,Int.toNat_natCast,Zt,Zf]
    repeat refine peel ?_
    apply J;clear J K
    refine Zb ?_ ?_<;>intro hb
    ·rw[if_pos hb]at hda
     refine rg1 zs [1,2,6,7,9,10,11] ?_
     refine ns ?_
     rw[hda]
    rw[if_neg (by simp[hb])]at hda
    refine ak ?_
    refine ns ?_
    rw[hda]
   rintro T8 H8 n8 ⟨rfl,rfl,rfl⟩
   refine Ze zs [1,2,6,7,9,10,11,12] fun K J=> ?_
   try simp only[go_sem,seval,hnum,hnua,hnum2,hszq,hagq,hmoq,hszr,hagr,hmor,b1,b2,hnth,hn2,e1,e2,e3,g1,g2,hse,YY,Nat.add_assoc,List.length_map,Int.toNat_natCast,Zt,Zf,Zg,bys]
   repeat (first | (refine And.intro ?_ ?_;· first | (intro _;exact YN _) | (intro _ h8;rw[h8];rfl)) | refine peel ?_)
   apply J;clear J K
   refine Ze zs [1,2,6,7,9,10,11,12,13] fun K J=> ?_
   try simp only[go_sem,seval,hnum,hnua,hnum2,hszq,hagq,hmoq,hszr,hagr,hmor,b1,b2,hnth,hn2,e1,e2,e3,g1,g2,hse,YY,Nat.add_assoc,List.length_map,Int.toNat_natCast,Zt,Zf,Zg,bys]
   repeat (first | (refine And.intro ?_ ?_;· first | (intro _;exact YN _) | (intro _ h8;rw[h8];rfl)) | refine peel ?_)
   apply J;clear J K
   refine rg zs [1,2,6,7,9,10,11,73] ?_
   refine Zb ?_ ?_<;>intro hb
   ·have hyes:XA q (Zv q).1 (Zv q).2.1 x.row=true:=by unfold XA;have h9:=hb;clear hb;revert h9;cases (Zv q).2.1<;>cases q.rev<;>intro h9<;>first | rfl | (simp[hlt]at h9 ⊢;omega) | (simp at h9;done)
    refine rg1 zs [1,2,6,7,9,10] ?_
    refine ns ?_
    first
    | (rw [hF1, hyes, if_pos rfl]
       rw[List.take_of_length_le (show((F i).map Zg).length≤(F i).length by simp)]
       refine⟨ver+1,?_⟩;(repeat' apply And.intro)<;>first | rfl | (rw[List.length_append];rfl) | ((try simp only[Pv]);(repeat first | rw[if_pos rfl] | rw[if_pos trivial] | rw[if_neg om]);first | done | exact b1 | exact b2 | (rw[List.map_append];rfl)) | (intro k hk;refine ohx ?_;exact hlow k hk) | omega)
   have hno:XA q (Zv q).1 (Zv q).2.1 x.row=false:=by unfold XA;have h9:=hb;clear hb;revert h9;cases (Zv q).2.1<;>cases q.rev<;>intro h9<;>first | rfl | (simp[hlt]at h9 ⊢;omega) | (simp at h9;done)
   refine ak ?_
   refine ns ?_
   first
   | (rw [hF1, hno, if_neg osi, List.append_nil]
      refine⟨ver,?_⟩;(repeat' apply And.intro)<;>first | rfl | (rw[List.length_append];rfl) | ((try simp only[Pv]);(repeat first | rw[if_pos rfl] | rw[if_pos trivial] | rw[if_neg om]);first | done | exact b1 | exact b2 | (rw[List.map_append];rfl)) | (intro k hk;refine ohx ?_;exact hlow k hk) | omega)
  rintro T3 H3 n3 ⟨ver3,rfl,b1,b2,hlow,hn3⟩
  refine rg1 zs [1,2,6,7,9,10] ?_
  exact⟨⟨i+1,ver3,om,rfl,rfl,hlow,hn3⟩,om⟩
 have hci:i=l.length:=otf
 refine ax ?_
 apply hK2
 refine rg zs [4,5] ?_
 refine ar ?_
 subst hci
 have hFe:F l.length=Wq q l:=by rw[hF];unfold Wq;show List.filter _ (List.take l.length (dirL q l))=_;rw[List.take_of_length_le (by unfold dirL;split<;>simp)]
 rw[hFe]at b2 ⊢
 exact⟨_,rfl,hlow,.tup (.cons (.osl b2 om osi (by rw[List.drop_zero,List.take_of_length_le osi];exact Wp _ (Wo Zg (fun r=>kl_row r _) _))) (.cons (.kl trivial) .nil))⟩
end Go.Proofs.YtkmkbndcekklmaaGreatDoor