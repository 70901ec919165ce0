/- Own layer 'Sx', part U: functions that defer a call, and calls that are deferred and recover. Of every program; no condition. -/
import Derived.Test.YtkmkbndcekklmaaGreatDoorPD
import Derived.Recover
set_option linter.unusedSimpArgs false
set_option linter.unusedVariables false
namespace Go.Sx
open Go
section
variable {P:Program}{ops:Array Oper}
def Behind(K:Act→World→Prop)(R:Exit→Act→World→Prop):Exit→Act→World→Prop
 | .normal,a,w=>K a w
 | e,a,w=>R e a w
theorem Uw{R : Exit → Act → World → Prop}{l2 : List Oper}: ∀ (l : List Oper) (a : Act) (w : World),
   wpList P ops (Behind (wpList P ops R l2) R) l a w→wpList P ops R (l++l2) a w
 | [],_,_,h=>h
 | o::l,a,w,h=>by
   have ih:=Uw (R:=R) (l2:=l2) l;rw[List.cons_append];unfold wpList at h ⊢;split
   ·rename_i hw;rw[if_pos hw]at h;refine h.imp (fun h=> ?_) (fun⟨h1,a',w',h2⟩=>⟨h1,a',w',h2⟩);unfold Oper.wp at h ⊢;generalize (execOp a.eval o).run P w=r at*;cases r with
    | ok nx w'=>
      cases nx<;>simp only[Oper.upon]at h ⊢<;>first
        | exact ih _ _ h
        | exact Calls.mono h (fun e w'' he=>by cases e<;>first | exact ih _ _ he | exact he | (obtain⟨a',w',h2⟩:=he;exact⟨a',w',h2⟩))
        | exact Rows.mono h (fun _ _ he=>ih _ _ he)
        | exact h
    | halt x w'=>cases x<;>simp only[Oper.upon]at h ⊢<;>exact h
   ·exact kcD
def Xz(P:Program)(ops:Array Oper)(Q:Exit→Act→List Frame→World→Prop):List Oper→Act→List Frame→World→Prop
 | [],a,cs,w=>Q .normal a cs w
 | o::rest,a,cs,w=>
   if Region.wanted o (yielded ops a.tmps)then
     match (execOp a.eval o).run P w with
     | .ok .recover w'=>
       match recoverD cs with
       | some (v,cs')=>Xz P ops Q rest (a.put o.dst v) cs' w'
       | none=>Xz P ops Q rest (a.put o.dst .nilIface) cs w'
     | r=>o.upon P a (fun a' w'=>Xz P ops Q rest a' cs w') (fun e a' w'=>Q e a' cs w') r
   else Xz P ops Q rest (a.put o.dst undef) cs w
theorem wpOpsS_eq{Q:Exit→Act→List Frame→World→Prop}(l:List Oper):∀k,(∀j,l[j]? =ops[k+j]?)→wpOpsS P ops Q (List.range' k l.length)=Xz P ops Q l:=by
 induction l with
 | nil=>intro k _;funext a cs w;simp[wpOpsS,Xz]
 | cons o l ih=>
   intro k h;have h0:ops[k]? =some o:=by simpa using(h 0).symm
   have ih':=ih (k+1) (fun j=>by have:=h (j+1);simpa [qg,Nat.add_comm 1 j]using this);funext a cs w;simp only[qi,List.range'_succ,wpOpsS,h0,Xz,ih'];rfl
theorem MV{Q:Exit→Act→List Frame→World→Prop}{a:Act}{cs:List Frame}{w:World}{id:Nat}(h:Xz P ops Q ops.toList a cs w):(Code.region id ops false).wpS P Q a cs w:=
 wpS_region (by rw[List.range_eq_range',←Array.length_toList,wpOpsS_eq ops.toList 0 osi];exact h)
theorem QN{Q : Exit → Act → List Frame → World → Prop}{l2 : List Oper}{cs : List Frame}(hQ : ∀ a w, ¬ Q .outgrown a cs w): ∀ (l : List Oper) (a : Act) (w : World),
   wpList P ops (Behind (fun a w=>Xz P ops Q l2 a cs w) (fun e a w=>Q e a cs w)) l a w→Xz P ops Q (l++l2) a cs w
 | [],_,_,h=>h
 | o::l,a,w,h=>by
   have ih:=QN (Q:=Q) (l2:=l2) hQ l;rw[List.cons_append];unfold wpList at h;unfold Xz;split
   ·rename_i hw;rw[if_pos hw]at h;rcases h with h | ⟨_,a',w',h2⟩
    ·unfold Oper.wp at h;generalize (execOp a.eval o).run P w=r at*;cases r with
     | ok nx w'=>
       cases nx<;>simp only[Oper.upon]at h ⊢<;>first
         | exact ih _ _ h
         | exact Calls.mono h (fun e w'' he=>by cases e<;>first | exact ih _ _ he | exact he | (obtain⟨a',w',h2⟩:=he;exact(hQ _ _ h2).elim))
         | exact Rows.mono h (fun _ _ he=>ih _ _ he)
         | exact h.elim
     | halt x w'=>cases x<;>simp only[Oper.upon]at h ⊢<;>first | exact h | exact h.elim
    ·exact(hQ _ _ h2).elim
   ·exact kcD
end
structure ADef where
 f:FuncId
 args:List AV
def Km(P:Program)(c:Ctx)(D:ADef)(ds:List Deferred):Prop:=
 ∃(d:Deferred) (cap:Array Value) (fn:Func) (vs:List Value),ds=[d]∧d.target= .fn (.func D.f) cap∧d.args++cap=vs.toArray∧RelT c D.args vs∧
   P.funcs[D.f]? =some fn∧fn.body.isSome=true∧(fn.name== "runtime.NumGoroutine")=false
theorem Km.mono{P:Program}{c c':Ctx}(h:c.le c'){D:ADef}{ds:List Deferred}(hd:Km P c D ds):Km P c' D ds:=by
 obtain⟨d,cap,fn,vs,h1,h2,h3,h4,h5⟩:=hd;exact⟨d,cap,fn,vs,h1,h2,h3,RelT.mono h _ _ h4,h5⟩
inductive Vz where
 | ret
 | pan (p:AV)
def Vi(c:Ctx):Vz→FrameMode→Prop
 | .ret,u=>u= .returning
 | .pan p,u=>∃v,u= .panicking [{v,recovered:=false}]∧Rel c p false [v]
def WG(P:Program)(f:FuncId)(args:List AV)(m:Vz)(H:Heap)(n:Nat)(K:Vz→Heap→Nat→Prop):Prop:=
 ∀(c:Ctx) (w:World) (vs:List Value) (u:FrameMode),Sim c H n w→RelT c args vs→Vi c m u→
   CallsD P f vs.toArray u w fun e u' w'=>(∃v,e= .returned v)∧∃m' c' H' n',K m' H' n'∧Step c H w c' H' n' w'∧Vi c' m' (settle u')
theorem WG.mono{P : Program}{f : FuncId}{args : List AV}{m : Vz}{H : Heap}{n : Nat}{K K' : Vz → Heap → Nat → Prop}
   (h:WG P f args m H n K) (hk:∀m H n,K m H n→K' m H n):WG P f args m H n K':=fun c w vs u hs hr hm=>
 (h c w vs u hs hr hm).mono fun _ _ _ ⟨he,m',c',H',n',V,hst⟩=>⟨he,m',c',H',n',hk _ _ _ V,hst⟩
def APostD(P:Program)(N:Nat)(c:Ctx)(H:Heap)(w:World)(Q0:QK)(QD:ADef→QK)(e:Exit)(a':Act)(w':World):Prop:=
 ∃ae c' T' H' n',ZF c' ae e∧Step c H w c' H' n' w'∧ZJ c' T' a'.tmps∧a'.tmps.size=N∧
   ((a'.defers=[]∧Q0 ae T' H' n')∨∃D,Km P c' D a'.defers∧QD D ae T' H' n')
def awpD(P:Program)(N:Nat)(code:Code)(T:Nat→AV)(H:Heap)(n:Nat)(Q0:QK)(QD:ADef→QK):Prop:=
 ∀(c:Ctx) (w:World) (a:Act),Sim c H n w→ZJ c T a.tmps→a.tmps.size=N→a.defers=[]→code.wp P (APostD P N c H w Q0 QD) a w
section
variable {P:Program}{N:Nat}{T:Nat→AV}{H:Heap}{n:Nat}{Q0:QK}{QD:ADef→QK}
theorem APostD.step{c c1 : Ctx}{H H1 : Heap}{n1 : Nat}{w w1 : World}(h : Step c H w c1 H1 n1 w1){e : Exit}{a' : Act}{w' : World}
   (hp:APostD P N c1 H1 w1 Q0 QD e a' w'):APostD P N c H w Q0 QD e a' w':=by
 obtain⟨ae,c',T',H',n',hm,hst,hr⟩:=hp;exact⟨ae,c',T',H',n',hm,h.trans hst,hr⟩
theorem awpD_seq{x y:Code}(h:awp P N x T H n (ZK (fun T H n=>awpD P N y T H n Q0 QD) Q0)):awpD P N (.seq x y) T H n Q0 QD:=fun c w a hs hr hN hd=>by
 refine wp_seq (Go.wp_mono (h c w a hs hr hN [] hd) ?_);rintro e a' w' ⟨ae,c',T',H',n',hQ,hm,hst,hr',hN',hd'⟩;cases ae with
 | normal=>
   cases e<;>simp only[ZF]at hm;simp only[ZK]at hQ;show y.wp P _ a' w';exact Go.wp_mono (hQ c' w' a' hst.sim hr' hN' hd') fun e a2 w2 hp=>hp.step hst
 | exit i=>
   cases e<;>simp only[ZF]at hm;subst hm;exact⟨.exit i,c',T',H',n',rfl,hst,hr',hN',.inl ⟨hd',hQ⟩⟩
 | ret=>
   cases e<;>simp only[ZF]at hm;exact⟨.ret,c',T',H',n',trivial,hst,hr',hN',.inl ⟨hd',hQ⟩⟩
 | pan p=>
   cases e<;>simp only[ZF]at hm;exact⟨.pan p,c',T',H',n',hm,hst,hr',hN',.inl ⟨hd',hQ⟩⟩
theorem awpD_seq_k{x y:Code}(h:∀K:KT,(∀T H n,awpD P N y T H n Q0 QD→K T H n)→awp P N x T H n (ZK K Q0)):awpD P N (.seq x y) T H n Q0 QD:=
 awpD_seq (h _ fun _ _ _ h=>h)
theorem awpD_sel(live:List Nat){code:Code}(h:awpD P N code (tsel live T) H n Q0 QD):awpD P N code T H n Q0 QD:=fun c w a hs hr hN hd=>h c w a hs (Nq live hr) hN hd
theorem awpD_reg{id : Nat}{l : List Oper}{y : Code}(z : TypeId → AV)(live : List Nat)
   (h:∀K:KT,(∀T H n,awpD P N y T H n Q0 QD→K T H n)→erun P z N l.toArray l T H n (ZK (fun T' H' n'=>K (tsel live T') H' n') Q0)):
   awpD P N (.seq (.region id l.toArray false) y) T H n Q0 QD:=
 awpD_seq (Kq z (by simpa using h (fun T' H' n'=>awpD P N y T' H' n' Q0 QD) (fun _ _ _ h=>h)) |>.mono fun e T' H' n' hq=>by
   cases e<;>first | exact awpD_sel live hq | exact hq)
def deferK(P:Program)(fv:AV)(args:List AV)(k:ADef→Prop):Prop:=
 match fv with
 | .fn (.func f) first captured=>(∃fn:Func,P.funcs[f]? =some fn∧fn.body.isSome=true∧(fn.name== "runtime.NumGoroutine")=false)∧k ⟨f,first++args++captured⟩
 | _=>False
theorem awpD_defer{id : Nat}{pre post : List Oper}{dst : Option Tmp}{fo : Operand}{dargs : List Operand}{ts : Array TypeId}{ty : TypeId}{pos : String}{after : Array Edge}{l : List Oper}{y : Code}(z : TypeId → AV)(live : List Nat)
   (hl:l=pre++⟨dst,.defer ⟨.value fo,dargs.toArray,ts⟩,ty,pos,after,none⟩::post) (hdst:dOK N dst)
   (h:∀K:ADef→KT,(∀D T H n,awp P N y T H n (QD D)→K D T H n)→
     erun P z N l.toArray pre T H n (ZK (fun T1 H1 n1=>deferK P (evO T1 fo) (dargs.map (evO T1)) fun D=>
       erun P z N l.toArray post (tput T1 dst .junk) H1 n1 (ZK (fun T2 H2 n2=>K D (tsel live T2) H2 n2) (QD D))) fun _ _ _ _=>False)):
   awpD P N (.seq (.region id l.toArray false) y) T H n Q0 QD:=fun c w a hs hr hN hd=>by
 have h:=h (fun D T H n=>awp P N y T H n (QD D)) (fun _ _ _ _ h=>h);refine wp_seq (wp_region_list ?_);show wpList P l.toArray _ l.toArray.toList a w;rw[show l.toArray.toList=pre++⟨dst,.defer ⟨.value fo,dargs.toArray,ts⟩,ty,pos,after,none⟩::post from hl];refine Uw pre a w (Xj ?_ pre a w (Z9 _ _ _ _ h c w a hs hr hN [] hd));rintro e a1 w1 ⟨ae,c1,T1,H1,n1,hQ,hm,hst1,hr1,hN1,hd1⟩;cases ae with
 | normal=>
   cases e<;>simp only[ZF]at hm;simp only[ZK]at hQ;generalize hfo:evO T1 fo=fv at hQ;cases fv<;>simp only[deferK]at hQ;rename_i f first captured
   cases f<;>simp only at hQ;rename_i f;obtain⟨⟨fn,hfn,hbody,hname⟩,hk⟩:=hQ;have hf:=Wy hr1 fo;rw[hfo]at hf;simp only[Rel,List.cons.injEq,and_true]at hf;obtain⟨fv,cv,ef,hf1,hf2⟩:=hf;have hargs:RelT c1 (dargs.map (evO T1)) (dargs.map a1.eval):=RelT.of_map dargs fun x _=>Wy hr1 x;show wpList P l.toArray _ (_::post) a1 w1;unfold wpList;rw[if_pos (YT rfl)];left;have hrun:(execOp a1.eval ⟨dst,.defer ⟨.value fo,dargs.toArray,ts⟩,ty,pos,after,none⟩).run P w1= .ok (.defer {target:= .fn (.func f) cv,args:=fv++(dargs.map a1.eval).toArray}) w1:=by
     simp[execOp,resolve,ef,Deferred.ofValue]
   unfold Oper.wp;rw[hrun];simp only[Oper.upon];have hd':∀d,dst=some d→d<a1.tmps.size:=fun d hd2=>by rw[hd2]at hdst;rw[hN1];exact hdst
   have hD:Km P c1 ⟨f,first++dargs.map (evO T1)++captured⟩ [{target:= .fn (.func f) cv,args:=fv++(dargs.map a1.eval).toArray}]:=
     ⟨_,cv,fn,fv.toList++dargs.map a1.eval++cv.toList,rfl,rfl,osi,RelT.append.2 ⟨_,_,rfl,RelT.append.2 ⟨_,_,rfl,hf1,hargs⟩,hf2⟩,hfn,hbody,hname⟩
   have hrun2:=Z9 _ _ _ _ hk c1 w1 (({a1 with defers:={target:= .fn (.func f) cv,args:=fv++(dargs.map a1.eval).toArray}::a1.defers}:Act).put dst undef) hst1.sim
     (Wn (a:={a1 with defers:={target:= .fn (.func f) cv,args:=fv++(dargs.map a1.eval).toArray}::a1.defers}) hr1 (r:= .junk) (v:=undef) (by simp[Rel]) hd') (by rw[Wt];exact hN1) [{target:= .fn (.func f) cv,args:=fv++(dargs.map a1.eval).toArray}] (by rw[Y4];simp[hd1])
   refine Xj ?_ post _ _ hrun2;rintro e a2 w2 ⟨ae,c2,T2,H2,n2,hQ2,hm2,hst2,hr2,hN2,hd2⟩;have hD2:∀(c3:Ctx) (a3:Act),c2.le c3→a3.defers=[{target:= .fn (.func f) cv,args:=fv++(dargs.map a1.eval).toArray}]→Km P c3 ⟨f,first++dargs.map (evO T1)++captured⟩ a3.defers:=fun c3 a3 hle h3=>by
     rw[h3];exact(hD.mono hst2.le).mono hle
   cases ae with
   | normal=>
     cases e<;>simp only[ZF]at hm2;simp only[ZK]at hQ2;show y.wp P _ a2 w2;refine Go.wp_mono (Yl live hQ2 c2 w2 a2 hst2.sim hr2 hN2 _ hd2) ?_;rintro e a3 w3 ⟨ae,c3,T3,H3,n3,hQ3,hm3,hst3,hr3,hN3,hd3⟩;exact⟨ae,c3,T3,H3,n3,hm3,(hst1.trans hst2).trans hst3,hr3,hN3,.inr ⟨_,hD2 c3 a3 hst3.le hd3,hQ3⟩⟩
   | exit i=>
     cases e<;>simp only[ZF]at hm2;subst hm2;exact⟨.exit i,c2,T2,H2,n2,rfl,hst1.trans hst2,hr2,hN2,.inr ⟨_,hD2 c2 a2 (.refl _) hd2,hQ2⟩⟩
   | ret=>
     cases e<;>simp only[ZF]at hm2;exact⟨.ret,c2,T2,H2,n2,trivial,hst1.trans hst2,hr2,hN2,.inr ⟨_,hD2 c2 a2 (.refl _) hd2,hQ2⟩⟩
   | pan p=>
     cases e<;>simp only[ZF]at hm2;exact⟨.pan p,c2,T2,H2,n2,hm2,hst1.trans hst2,hr2,hN2,.inr ⟨_,hD2 c2 a2 (.refl _) hd2,hQ2⟩⟩
 | exit i=>exact hQ.elim
 | ret=>exact hQ.elim
 | pan p=>exact hQ.elim
end
def FinA(P:Program)(rs:List ResultVar)(K:ARes→Heap→Nat→Prop)(T:Nat→AV):Vz→Heap→Nat→Prop
 | .ret,H',n'=>Jd (resC P H' T rs) fun l=>K (.val (resV l)) H' n'
 | .pan p,H',n'=>K (.pan p) H' n'
def FinD(P:Program)(rs:List ResultVar)(K:ARes→Heap→Nat→Prop)(D:ADef):QK
 | .normal,T,H,n=>WG P D.f D.args .ret H n (FinA P rs K T)
 | .ret,T,H,n=>WG P D.f D.args .ret H n (FinA P rs K T)
 | .pan p,T,H,n=>WG P D.f D.args (.pan p) H n (FinA P rs K T)
 | .exit _,_,_,_=>False
theorem args_rel{c : Ctx}{args : List AV}{vs : List Value}{N : Nat}(hr : RelT c args vs)(hlen : args.length ≤ N):
   ZJ c (argT args) (vs.toArray++Array.replicate (N-vs.toArray.size) undef)∧(vs.toArray++Array.replicate (N-vs.toArray.size) undef).size=N:=by
 have hl:vs.length=args.length:=by
   clear hlen
   induction args generalizing vs with
   | nil=>simp only[RelT]at hr;subst hr;rfl
   | cons x xs ih=>
     simp only[RelT]at hr;obtain⟨v,r,rfl,_,h2⟩:=hr;simp[ih h2]
 refine⟨fun t=> ?_,oz⟩;rcases Nat.lt_or_ge t args.length with ht | ht
 ·obtain⟨v,hv,hrel⟩:=RelT.nth hr (List.getElem?_eq_getElem ht);have e:(vs.toArray++Array.replicate (N-vs.toArray.size) undef).getD t undef=v:=by
    exact kcE
  rw[e];simpa [argT,List.getD,List.getElem?_eq_getElem ht]using hrel
 ·have:argT args t= .junk:=by simp[argT,List.getD,List.getElem?_eq_none ht]
  rw[this];simp[Rel]
theorem Re{P : Program}{f : FuncId}{fn : Func}{code : Code}{args : List AV}{H : Heap}{n N : Nat}{rs : List ResultVar}{K : ARes → Heap → Nat → Prop}
   (hf:P.funcs[f]? =some fn) (hb:fn.body=some code) (hN:fn.ntmps=N) (hrs:fn.results.toList=rs) (hlen:args.length≤N) (h:awpD P N code (tl (argL 0 args)) H n (Fin P rs K) (FinD P rs K)):Zn P f args H n K:=fun c w vs hs hr=>by
 rw[Ra]at h;subst hN;subst hrs;obtain⟨ha1,ha2⟩:=args_rel hr hlen;refine calls_of_wp_defers hf hb (Go.wp_mono (h c w ⟨vs.toArray++Array.replicate (fn.ntmps-vs.toArray.size) undef,[]⟩ hs ha1 ha2 rfl) ?_);rintro e a' w' ⟨ae,c',T',H',n',hm,hst,hr',_,hq⟩
 have fin : ∀ {c2 : Ctx} {H2 : Heap} {n2 : Nat} {w2 : World}, Step c H w c2 H2 n2 w2 → c'.le c2 → ∀ (x : Option (Prop × List AV)), x = resC P H2 T' fn.results.toList → Jd x (fun l => K (.val (resV l)) H2 n2) →
     ∃v,(results fn a'.tmps).run P w2= .ok v w2∧∃res c' H' n',K res H' n'∧Step c H w c' H' n' w2∧
       match Ending.returned v,res with
       | .returned v,.val r=>Rel c' r false [v]
       | .panicked ch,.pan p=>∃v,ch=[{v,recovered:=false}]∧Rel c' p false [v]
       | _,_=>False:=fun{c2 H2 n2 w2} hst2 hle x hx hc=>by
   cases x with
   | none=>exact hc.elim
   | some p=>
     obtain⟨C,l⟩:=p;obtain⟨hC,V⟩:=hc;obtain⟨v,hv,hrel⟩:=QX hst2.sim (ZJ.mono hle hr') hx.symm hC;exact⟨v,hv,.val _,c2,H2,n2,V,hst2,hrel⟩
 have go : ∀ (D : ADef) (m : Vz) (u : FrameMode), Km P c' D a'.defers → Vi c' m u → u ≠ .run →
     WG P D.f D.args m H' n' (FinA P fn.results.toList K T')→
     Leaves P fn a'.tmps (fun e w'=>∃res c' H' n',K res H' n'∧Step c H w c' H' n' w'∧match e,res with
       | .returned v,.val r=>Rel c' r false [v]
       | .panicked ch,.pan p=>∃v,ch=[{v,recovered:=false}]∧Rel c' p false [v]
       | _,_=>False) a'.defers u w':=fun D m u hD hmo hu hcall=>by
   obtain⟨d,cap,gf,vs2,hds,htar,hvs,hrel,hfn,hbody,hname⟩:=hD;rw[hds];obtain⟨t,dargs⟩:=d;simp only at htar hvs;subst htar;refine leaves_cons hu (f:=D.f) (args:=vs2.toArray) ?_ ?_
   ·have hbn:gf.body.isNone=false:=by cases hh:gf.body<;>simp_all
    simp only[invoke,hvs,callFunc,run_program,Sem.run_bind,Result.andThen_ok,hfn,hname,hbn];simp
   ·refine(hcall c' w' vs2 u hst.sim hrel hmo).mono ?_;rintro e u' w2 ⟨⟨v,rfl⟩,m',c2,H2,n2,V,hst2,hmo2⟩;show Leaves P fn a'.tmps _ [] (settle u') w2;cases m' with
    | ret=>
      simp only[Vi]at hmo2;rw[hmo2];exact fin (hst.trans hst2) hst2.le _ rfl V
    | pan p=>
      simp only[Vi]at hmo2;obtain⟨v2,hu2,hv2⟩:=hmo2;rw[hu2];exact⟨.pan p,c2,H2,n2,V,hst.trans hst2,v2,rfl,hv2⟩
 rcases hq with⟨hd0,hQ⟩ | ⟨D,hD,hQ⟩
 ·cases ae with
  | normal=>
    cases e<;>simp only[ZF]at hm;show Leaves P fn a'.tmps _ a'.defers .returning w';rw[hd0];exact fin hst (.refl _) _ rfl hQ
  | ret=>
    cases e<;>simp only[ZF]at hm;show Leaves P fn a'.tmps _ a'.defers .returning w';rw[hd0];exact fin hst (.refl _) _ rfl hQ
  | exit i=>exact hQ.elim
  | pan p=>
    cases e<;>simp only[ZF]at hm;rename_i ch;show Leaves P fn a'.tmps _ a'.defers (.panicking ch) w';rw[hd0];exact⟨.pan p,c',H',n',hQ,hst,hm⟩
 ·cases ae with
  | normal=>
    cases e<;>simp only[ZF]at hm;exact go D .ret .returning hD rfl osi hQ
  | ret=>
    cases e<;>simp only[ZF]at hm;exact go D .ret .returning hD rfl osi hQ
  | exit i=>exact hQ.elim
  | pan p=>
    cases e<;>simp only[ZF]at hm;rename_i ch;exact go D (.pan p) (.panicking ch) hD (by obtain⟨v,rfl,hv⟩:=hm;exact⟨v,rfl,hv⟩) osi hQ
def Vz.got:Vz→AV
 | .ret=> .nili
 | .pan p=>p
def FinS(P:Program)(rs:List ResultVar)(K:Heap→Nat→Prop):QK
 | .normal,T,H,n=>Jd (resC P H T rs) fun _=>K H n
 | .ret,T,H,n=>Jd (resC P H T rs) fun _=>K H n
 | _,_,_,_=>False
theorem acallsD_of{P : Program}{f : FuncId}{fn : Func}{args : List AV}{H : Heap}{n N : Nat}{rs : List ResultVar}{m : Vz}{K : Vz → Heap → Nat → Prop}
   {id:Nat} {pre post:List Oper} {dst:Option Tmp} {ts:Array TypeId} {ty:TypeId} {pos:String} {after:Array Edge} {l:List Oper} {y:Code} (z:TypeId→AV) (live:List Nat)
   (hf:P.funcs[f]? =some fn) (hb:fn.body=some (.seq (.region id l.toArray false) y)) (hN:fn.ntmps=N) (hrs:fn.results.toList=rs) (hlen:args.length≤N)
   (hl:l=pre++⟨dst,.call ⟨.builtin .recover,#[],ts⟩,ty,pos,after,none⟩::post) (hdst:dOK N dst)
   (h:∀J:KT,(∀T H n,awp P N y T H n (FinS P rs (K .ret))→J T H n)→
     erun P z N l.toArray pre (tl (argL 0 args)) H n (ZK (fun T1 H1 n1=>erun P z N l.toArray post (tput T1 dst m.got) H1 n1 (ZK (fun T2 H2 n2=>J (tsel live T2) H2 n2) fun _ _ _ _=>False)) fun _ _ _ _=>False)):
   WG P f args m H n K:=fun c w vs u hs hr hmo=>by
 have h:=h (fun T H n=>awp P N y T H n (FinS P rs (K .ret))) (fun _ _ _ h=>h);rw[Ra]at h;subst hN;subst hrs;obtain⟨ha1,ha2⟩:=args_rel hr hlen;refine callsD_of_wpS hf hb fun c0 cs hc0=> ?_;have hc0':({c0 with mode:=u}:Frame)=c0:=by subst hc0;rfl
 refine wpS_seq (MV ?_);rw[show l.toArray.toList=pre++⟨dst,.call ⟨.builtin .recover,#[],ts⟩,ty,pos,after,none⟩::post from hl];have noOut:∀(cs2:List Frame) (a:Act) (w':World),¬Exit.thenS (y.wpS P (bodyPostS P fn c0 cs fun e u' w'=>(∃v,e= .returned v)∧∃m' c' H' n',K m' H' n'∧Step c H w c' H' n' w'∧Vi c' m' (settle u'))) (bodyPostS P fn c0 cs fun e u' w'=>(∃v,e= .returned v)∧∃m' c' H' n',K m' H' n'∧Step c H w c' H' n' w'∧Vi c' m' (settle u')) .outgrown a cs2 w':=by
   rintro cs2 a w' ⟨u',⟨v,hv⟩,_⟩;cases hv
 refine QN (noOut _) pre _ w (Xj ?_ pre _ w (Z9 _ _ _ _ h c w ⟨vs.toArray++Array.replicate (fn.ntmps-vs.toArray.size) undef,[]⟩ hs ha1 ha2 [] rfl));rintro e a1 w1 ⟨ae,c1,T1,H1,n1,hQ,hm,hst1,hr1,hN1,hd1⟩;cases ae with
 | normal=>
   cases e<;>simp only[ZF]at hm;simp only[ZK]at hQ;have hd':∀d,dst=some d→d<a1.tmps.size:=fun d hd2=>by rw[hd2]at hdst;rw[hN1];exact hdst
   have cont : ∀ (u2 : FrameMode) (v2 : Value), Rel c1 m.got false [v2] → settle u2 = .returning →
       Xz P l.toArray (Exit.thenS (y.wpS P (bodyPostS P fn c0 cs fun e u' w'=>(∃v,e= .returned v)∧∃m' c' H' n',K m' H' n'∧Step c H w c' H' n' w'∧Vi c' m' (settle u'))) (bodyPostS P fn c0 cs fun e u' w'=>(∃v,e= .returned v)∧∃m' c' H' n',K m' H' n'∧Step c H w c' H' n' w'∧Vi c' m' (settle u'))) post (a1.put dst v2) ({c0 with mode:=u2}::cs) w1:=fun u2 v2 hv2 hu2=>by
     have hrun:=Z9 _ _ _ _ hQ c1 w1 (a1.put dst v2) hst1.sim (Wn hr1 hv2 hd') (by rw[Wt,hN1]) [] (by rw[Y4,hd1]);rw[←List.append_nil post];refine QN (noOut _) post _ w1 (Xj ?_ post _ w1 hrun);rintro e a2 w2 ⟨ae,c2,T2,H2,n2,hQ2,hm2,hst2,hr2,hN2,hd2⟩;cases ae with
     | normal=>
       cases e<;>simp only[ZF]at hm2;simp only[ZK]at hQ2;show y.wpS P _ a2 _ w2;refine wpS_of_wp (Go.wp_mono (Yl live hQ2 c2 w2 a2 hst2.sim hr2 hN2 [] hd2) ?_);rintro e a3 w3 ⟨ae,c3,T3,H3,n3,hQ3,hm3,hst3,hr3,hN3,hd3⟩
       have fin : ∀ (x : Option (Prop × List AV)), x = resC P H3 T3 fn.results.toList → Jd x (fun _ => K .ret H3 n3) →
           a3.defers=[]∧∃u',({c0 with mode:=u2}::cs:List Frame)={c0 with mode:=u'}::cs∧∃v,(results fn a3.tmps).run P w3= .ok v w3∧(∃v',Ending.returned v= .returned v')∧∃m' c' H' n',K m' H' n'∧Step c H w c' H' n' w3∧Vi c' m' (settle u'):=fun x hx hc=>by
         cases x with
         | none=>exact hc.elim
         | some p=>
           obtain⟨C,lr⟩:=p;obtain⟨hC,V⟩:=hc;obtain⟨v,hv,_⟩:=QX hst3.sim hr3 hx.symm hC;exact⟨hd3,u2,rfl,v,hv,⟨v,rfl⟩,.ret,c3,H3,n3,V,(hst1.trans hst2).trans hst3,hu2⟩
       cases ae with
       | normal=>
         cases e<;>simp only[ZF]at hm3;exact fin _ rfl hQ3
       | ret=>
         cases e<;>simp only[ZF]at hm3;exact fin _ rfl hQ3
       | exit i=>exact hQ3.elim
       | pan p=>exact hQ3.elim
     | exit i=>exact hQ2.elim
     | ret=>exact hQ2.elim
     | pan p=>exact hQ2.elim
   show Xz P l.toArray _ (_::post) a1 (c0::cs) w1;unfold Xz;rw[if_pos (YT rfl)];have hrun:(execOp a1.eval ⟨dst,.call ⟨.builtin .recover,#[],ts⟩,ty,pos,after,none⟩).run P w1= .ok .recover w1:=by
     simp[execOp,resolve,invoke,builtin]
   rw[hrun];cases m with
   | ret=>
     have hu:u= .returning:=hmo;have hrec:recoverD (c0::cs)=none:=by simp[recoverD,hc0,hu]
     simp only[hrec];have:=cont u .nilIface (by simp[Vz.got,Rel]) (by rw[hu];rfl);rw[hc0']at this;exact this
   | pan p=>
     obtain⟨v,hu,hv⟩:=hmo;have hrec:recoverD (c0::cs)=some (v,{c0 with mode:= .panicking [{v,recovered:=true}]}::cs):=by simp[recoverD,hc0,hu]
     simp only[hrec];exact cont _ v (Rel.mono hst1.le _ _ _ hv) rfl
 | exit i=>exact hQ.elim
 | ret=>exact hQ.elim
 | pan p=>exact hQ.elim
theorem opSplit{l:List Oper}{k:Nat}{o:Oper}(h:opAt l k=some o):l=l.take k++o::l.drop (k+1):=by
 rw[opAt_eq]at h;have hlt:k<l.length:=by
   rcases Nat.lt_or_ge k l.length with h' | h'
   ·exact h'
   ·rw[List.getElem?_eq_none h']at h;simp at h
 have e:l[k]=o:=by rw[List.getElem?_eq_getElem hlt]at h;exact Option.some.inj h
 rw[←e,←List.drop_eq_getElem_cons hlt,List.take_append_drop]
section
variable {P:Program}{N:Nat}{T:Nat→AV}{H:Heap}{n:Nat}{Q:QK}{Q0:QK}{QD:ADef→QK}
theorem awpD_def{id:Nat}{dst:Option Tmp}{fo:Operand}{dargs:List Operand}{ts:Array TypeId}{ty:TypeId}{pos:String}{after:Array Edge}{l:List Oper}{y:Code}(z:TypeId→AV)(live:List Nat)(k:Nat)
 (hl:opAt l k=some ⟨dst,.defer ⟨.value fo,dargs.toArray,ts⟩,ty,pos,after,none⟩) (hdst:dOK N dst)
 (h:∀K:ADef→KT,(∀D T H n,awp P N y T H n (QD D)→K D T H n)→
   erun P z N l.toArray (l.take k) T H n (ZK (fun T1 H1 n1=>deferK P (evO T1 fo) (dargs.map (evO T1)) fun D=>
     erun P z N l.toArray (l.drop (k+1)) (tput T1 dst .junk) H1 n1 (ZK (fun T2 H2 n2=>K D (tsel live T2) H2 n2) (QD D))) fun _ _ _ _=>False)):
 awpD P N (.seq (.region id l.toArray false) y) T H n Q0 QD:=awpD_defer z live (opSplit hl) hdst h
def panK:AV→(AV→Prop)→Prop
 | .iface t v,k=>k (.iface t v)
 | _,_=>False
theorem panK_iface(t:TypeId)(v:AV)(k:AV→Prop):panK (.iface t v) k=k (.iface t v):=rfl
theorem ot_panic{dst : Option Tmp}{x : Operand}{ty : TypeId}{pos : String}{after : Array Edge}{guard : Option (Nat × Bool)}{ε : Operand → AV}{K : ARes → Heap → Nat → Prop}
   (h:panK (ε x) fun p=>K (.pan p) H n):OpT P ⟨dst,.panic x,ty,pos,after,guard⟩ ε H n K:=fun c w a hs hr next Q' hn hp=>by
 have hx:=hr x (by simp[Op.operands]);generalize hε:ε x=av at h hx;cases av<;>simp only[panK]at h;rename_i t v;have hx':=hx;simp only[Rel,List.cons.injEq,and_true]at hx;obtain⟨xv,ev,_⟩:=hx;unfold Oper.wp;have hrun:(execOp a.eval ⟨dst,.panic x,ty,pos,after,guard⟩).run P w= .halt (.panic (a.eval x)) w:=by
   simp[execOp,ev,Instr.panic,goPanic]
 rw[hrun];exact hp _ _ c H n w h (.refl hs) hx'
theorem lrun_panic{ops : Array Oper}{l : List Oper}(z : TypeId → AV)(k : Nat){dst : Option Tmp}{x : Operand}{ty : TypeId}{pos : String}{after : Array Edge}(hl : opAt l k = some ⟨dst, .panic x, ty, pos, after, none⟩)(hdst : dOK N dst)
   (h:erun P z N ops (l.take k) T H n (ZK (fun T1 H1 n1=>panK (evO T1 x) fun p=>Q (.pan p) T1 H1 n1) Q)):lrun P N ops l T H n Q:=fun c w a hs hr hN ds hd=>by
 rw[opSplit hl];refine Uw _ a w (Xj ?_ _ a w (Z9 _ _ _ _ h c w a hs hr hN ds hd));rintro e a1 w1 ⟨ae,c1,T1,H1,n1,hQ,hm,hst1,hr1,hN1,hd1⟩;cases ae with
 | normal=>
   cases e<;>simp only[ZF]at hm;simp only[ZK]at hQ;refine Xj (fun e a w hp=>hp.step hst1) _ _ _ (YB (T:=T1) (H:=H1) (n:=n1) (Q:=Q) (ε:=evO T1) (k:=fun _ _ _=>False) (kp:=fun p H n=>Q (.pan p) T1 H n) hdst ((ot_panic (K:=fun res H' n'=>match res with | .val _=>False | .pan p=>Q (.pan p) T1 H' n') hQ).mono fun r H n hk=>by cases r<;>exact hk) hst1.sim hr1 hN1 hd1 (YT rfl) (fun x _=>Wy hr1 x) id (fun _ _ _ h=>h) (fun _ _ _ h=>h.elim) (fun _ _ _ h=>h))
 | exit i=>
   cases e<;>simp only[ZF]at hm;subst hm;exact⟨.exit i,c1,T1,H1,n1,hQ,rfl,hst1,hr1,hN1,hd1⟩
 | ret=>
   cases e<;>simp only[ZF]at hm;exact⟨.ret,c1,T1,H1,n1,hQ,trivial,hst1,hr1,hN1,hd1⟩
 | pan p=>
   cases e<;>simp only[ZF]at hm;exact⟨.pan p,c1,T1,H1,n1,hQ,hm,hst1,hr1,hN1,hd1⟩
theorem awp_pan1{id : Nat}{l : List Oper}(z : TypeId → AV)(k : Nat){dst : Option Tmp}{x : Operand}{ty : TypeId}{pos : String}{after : Array Edge}(hl : opAt l k = some ⟨dst, .panic x, ty, pos, after, none⟩)(hdst : dOK N dst)
   (h:erun P z N l.toArray (l.take k) T H n (ZK (fun T1 H1 n1=>panK (evO T1 x) fun p=>Q (.pan p) T1 H1 n1) Q)):awp P N (.region id l.toArray false) T H n Q:=
 fun c w a hs hr hN ds hd=>wp_region_list (by simpa using lrun_panic z k hl hdst h c w a hs hr hN ds hd)
end
theorem Rf{P:Program}{f:FuncId}{fn:Func}{args:List AV}{H:Heap}{n N:Nat}{rs:List ResultVar}{m:Vz}{K:Vz→Heap→Nat→Prop}
 {id:Nat} {dst:Option Tmp} {ts:Array TypeId} {ty:TypeId} {pos:String} {after:Array Edge} {l:List Oper} {y:Code} (z:TypeId→AV) (live:List Nat) (k:Nat)
 (hf:P.funcs[f]? =some fn) (hb:fn.body=some (.seq (.region id l.toArray false) y)) (hN:fn.ntmps=N) (hrs:fn.results.toList=rs) (hlen:args.length≤N)
 (hl:opAt l k=some ⟨dst,.call ⟨.builtin .recover,#[],ts⟩,ty,pos,after,none⟩) (hdst:dOK N dst)
 (h:∀J:KT,(∀T H n,awp P N y T H n (FinS P rs (K .ret))→J T H n)→
   erun P z N l.toArray (l.take k) (tl (argL 0 args)) H n (ZK (fun T1 H1 n1=>erun P z N l.toArray (l.drop (k+1)) (tput T1 dst m.got) H1 n1 (ZK (fun T2 H2 n2=>J (tsel live T2) H2 n2) fun _ _ _ _=>False)) fun _ _ _ _=>False)):
 WG P f args m H n K:=acallsD_of z live hf hb hN hrs hlen (opSplit hl) hdst h
attribute [go_sem] FinA.eq_1 FinA.eq_2 FinD.eq_1 FinD.eq_2 FinD.eq_3 deferK.eq_1 panK_iface Vz.got.eq_1 Vz.got.eq_2 FinS.eq_1 FinS.eq_2 List.take_succ_cons List.take_zero List.append_nil List.nil_append List.cons_append List.append_eq
theorem ZL{P : Program}{N : Nat}{x y : Code}{T : Nat → AV}{H : Heap}{n : Nat}{Q : QK}(live : List Nat)(J : KT)
   (h:awp P N x T H n (ZK (fun T H n=>J (tsel live T) H n) Q)) (hJ:∀T H n,J T H n→awp P N y T H n Q):awp P N (.seq x y) T H n Q:=
 JN (h.mono fun e T H n hq=>by cases e<;>first | exact Yl live (hJ _ _ _ hq) | exact hq)
theorem awp_raw_sl{P : Program}{N : Nat}{code : Code}{T : Nat → AV}{H : Heap}{n : Nat}{Q : QK}(t : Tmp){e : Nat}(hT : T t = .sl e [])
   (h:∀a cap,awp P N code (tput T (some t) (.raw (.slice a 0 cap))) H n Q):awp P N code T H n Q:=fun c w a hs hr hN ds hd=>by
 have ht:=hr t;rw[hT]at ht;simp only[Rel,List.cons.injEq,and_true,List.length_nil]at ht;obtain⟨ad,cap,ev,_⟩:=ht;refine h ad cap c w a hs (fun u=> ?_) hN ds hd;simp only[tput];split
 ·rename_i e2;subst e2;simp only[Rel];exact⟨by rw[ev],fun h=>by cases h⟩
 ·exact hr u
theorem Wk.raw_sl(a:Option Addr)(cap e:Nat):Wk (.raw (.slice a 0 cap)) (.sl e []):=⟨rfl,fun c m cs h=>by
 simp only[Rel]at h ⊢;exact⟨a,cap,h.1,Nat.zero_le _,osi,.inl trivial⟩⟩
theorem ZG{P:Program}{N:Nat}{code:Code}{T:Nat→AV}{H:Heap}{n:Nat}{Q:QK}(Φ:Heap→Nat→Prop)(h0:Φ H n)(h:∀H n,Φ H n→awp P N code T H n Q):awp P N code T H n Q:=h H n h0
end Go.Sx
namespace Go.Rt
open Go Go.Sx
def ruL(b:List UInt8)(p:Nat):Nat→Nat→Nat×Nat×Int
 | 0,_=>(0,0,13)
 | f+1,v=>
   if b.length≤p+(9-f)then(0,0,10)
   else if (9-f=9)∧1<(b.getD (p+(9-f)) 0).toNat then(0,0,13)
   else if (b.getD (p+(9-f)) 0).toNat<128 then
     (if (b.getD (p+(9-f)) 0).toNat=0∧0<9-f then(0,0,11)else(v+(b.getD (p+(9-f)) 0).toNat%128*2^(7*(9-f)),p+(9-f)+1,0))
   else ruL b p f (v+(b.getD (p+(9-f)) 0).toNat%128*2^(7*(9-f)))
def ruB(b:List UInt8)(p:Nat):Nat×Nat×Int:=if b.length<p then(0,0,1)else ruL b p 10 0
def rbB(b:List UInt8)(p most:Nat):List UInt8×Nat×Int:=
 if b.length<p then([],0,1)
 else if (ruB b p).2.2≠0 then([],0,(ruB b p).2.2)
 else if most<(ruB b p).1 then([],0,13)
 else if b.length-(ruB b p).2.1<(ruB b p).1 then([],0,10)
 else((b.drop (ruB b p).2.1).take (ruB b p).1,(ruB b p).2.1+(ruB b p).1,0)
theorem ruL_lt(b:List UInt8)(p:Nat):∀(f v:Nat),f≤10→v<2^(7*(10-f))→(ruL b p f v).1<18446744073709551616∧((ruL b p f v).2.2=0→(ruL b p f v).2.1≤b.length∧p<(ruL b p f v).2.1)∧(ruL b p f v).2.1≤b.length+p
 | 0,v,_,_=>by simp[ruL]
 | f+1,v,hf,hv=>by
   unfold ruL;have hc:=(b.getD (p+(9-f)) 0).toNat_lt;split
   ·simp
   ·rename_i h1;split
    ·simp
    ·rename_i h2;have e1:10-(f+1)=9-f:=om;rw[e1]at hv;split
     ·rename_i h3;split
      ·simp
      ·refine⟨?_,fun _=>⟨by show p+(9-f)+1≤b.length;omega,by show p<p+(9-f)+1;omega⟩,by show p+(9-f)+1≤b.length+p;omega⟩;show v+(b.getD (p+(9-f)) 0).toNat%128*2^(7*(9-f))<18446744073709551616;rcases Nat.lt_or_ge 0 f with h0 | h0
       ·have h4:2^(7*(9-f))≤2^56:=Nat.pow_le_pow_right om om;have h5:(b.getD (p+(9-f)) 0).toNat%128*2^(7*(9-f))≤127*2^56:=Nat.mul_le_mul om h4;omega
       ·have h6:f=0:=om;subst h6;have h7:(b.getD (p+(9-0)) 0).toNat≤1:=by
          rcases Nat.lt_or_ge 1 (b.getD (p+(9-0)) 0).toNat with h | h
          ·exact absurd ⟨rfl,h⟩ h2
          ·exact h
        have h5:(b.getD (p+(9-0)) 0).toNat%128*2^(7*(9-0))≤1*2^63:=Nat.mul_le_mul om om;omega
     ·rename_i h3;refine ruL_lt b p f _ om ?_;rcases Nat.lt_or_ge 0 f with h0 | h0
      ·have e2:7*(10-f)=7*(9-f)+7:=om;rw[e2,Nat.pow_add];have h5:(b.getD (p+(9-f)) 0).toNat%128*2^(7*(9-f))≤127*2^(7*(9-f)):=Nat.mul_le_mul_right _ om;omega
      ·have h6:f=0:=om;subst h6;exfalso;refine h2 ⟨rfl,om⟩
theorem ruB_lt(b:List UInt8)(p:Nat):(ruB b p).1<18446744073709551616∧((ruB b p).2.2=0→(ruB b p).2.1≤b.length∧p<(ruB b p).2.1)∧(ruB b p).2.1≤b.length+p:=by
 unfold ruB;split
 ·simp
 ·exact ruL_lt b p 10 0 om osi
def Qe(b:List UInt8)(p:Nat):Option (Int×Nat):=if b.length≤p then none else some (((b.getD p 0).toNat:Int),p+1)
def WP(b:List UInt8)(p:Nat):Option (Int×Nat):=if (ruB b p).2.2≠0 then none else if 9223372036854775807<(ruB b p).1 then none else some (((ruB b p).1:Int),(ruB b p).2.1)
def X3(b:List UInt8)(p:Nat):Option (List UInt8×Nat):=if (rbB b p b.length).2.2≠0 then none else some ((rbB b p b.length).1,(rbB b p b.length).2.1)
def be8(l:List UInt8):Nat:=l.foldl (fun n c=>n*256+c.toNat) 0
def rdDelta(b:List UInt8)(p:Nat):Option (Int×Nat):=if b.length<p+8 then none else some (IntKind.i64.wrap (be8 ((b.drop p).take 8):Int),p+8)
def rdCount(b:List UInt8)(p:Nat):Option (Nat×Nat):=(WP b p).bind fun x=>if b.length<x.2+x.1.toNat then none else some (x.1.toNat,x.2)
def NL(b:List UInt8)(p:Nat):Option (Ri×Nat):=
 (Qe b p).bind fun k=>(Qe b k.2).bind fun f=>(X3 b f.2).bind fun q=>(X3 b q.2).bind fun v=>some (⟨k.1,f.1,q.1,v.1⟩,v.2)
def rdOp(b:List UInt8)(p:Nat):Option (OpE×Nat):=
 (Qe b p).bind fun k=>(Qe b k.2).bind fun f=>(X3 b f.2).bind fun q=>(WP b q.2).bind fun t=>(X3 b t.2).bind fun v=>(rdDelta b v.2).bind fun d=>some (⟨k.1,f.1,q.1,t.1,v.1,d.1⟩,d.2)
def NJ{α:Type}(rd:List UInt8→Nat→Option (α×Nat))(b:List UInt8):Nat→Nat→List α→Option (List α×Nat)
 | 0,p,acc=>some (acc,p)
 | k+1,p,acc=>(rd b p).bind fun x=>NJ rd b k x.2 (acc++[x.1])
def NK{α:Type}(rd:List UInt8→Nat→Option (α×Nat))(b:List UInt8)(p:Nat):Option (List α×Nat):=(rdCount b p).bind fun x=>NJ rd b x.1 x.2 []
def rdQry(b:List UInt8)(p:Nat):Option (QryE×Nat):=
 (X3 b p).bind fun f=>(X3 b f.2).bind fun t=>(NK WP b t.2).bind fun l=>(X3 b l.2).bind fun pr=>(WP b pr.2).bind fun ti=>(WP b ti.2).bind fun n=>(WP b n.2).bind fun r=>
 (Qe b r.2).bind fun rv=>(X3 b rv.2).bind fun w=>(X3 b w.2).bind fun tk=>some (⟨f.1,t.1,l.1,pr.1,ti.1,n.1,r.1,rv.1==1,w.1,tk.1⟩,tk.2)
def zc:CmdE:=⟨0,0,0,[],[],[],0,zq⟩
def rs1(b:List UInt8)(p:Nat):Option (CmdE×Nat):=(Qe b p).bind fun k=>if bout k.1 1 7 then none else some ({zc with kind:=k.1},k.2)
def rs2(b:List UInt8)(c:CmdE)(p:Nat):Option (CmdE×Nat):=if XL c.kind||Q7 c.kind then(WP b p).bind fun x=>(WP b x.2).bind fun y=>some ({c with client:=x.1,serial:=y.1},y.2)else some (c,p)
def rs3(b:List UInt8)(c:CmdE)(p:Nat):Option (CmdE×Nat):=if kOps c.kind then(X3 b p).bind fun r=>(NK NL b r.2).bind fun x=>(NK rdOp b x.2).bind fun y=>some ({c with row:=r.1,conds:=x.1,ops:=y.1},y.2)else some (c,p)
def rs4(b:List UInt8)(c:CmdE)(p:Nat):Option (CmdE×Nat):=if 0≤VV c.kind then(WP b p).bind fun x=>some ({c with n:=x.1},x.2)else some (c,p)
def rs5(b:List UInt8)(c:CmdE)(p:Nat):Option (CmdE×Nat):=if W9 c.kind then(rdQry b p).bind fun x=>some ({c with q:=x.1},x.2)else some (c,p)
def rdCmd(b:List UInt8):Option CmdE:=(rs1 b 0).bind fun x=>(rs2 b x.1 x.2).bind fun x=>(rs3 b x.1 x.2).bind fun x=>(rs4 b x.1 x.2).bind fun x=>(rs5 b x.1 x.2).bind fun x=>if x.2=b.length then some x.1 else none
theorem and127(c:UInt8):intBits .and .u8 (c.toNat:Int) 127=((c.toNat%128:Nat):Int):=by
 have key:∀r:Fin 256,intBits .and .u8 ((r.1:Nat):Int) 127=((r.1%128:Nat):Int):=by decide +kernel
 exact key ⟨c.toNat,c.toNat_lt⟩
theorem or64{x m k:Nat}(hx:x<2^k)(h:x+m*2^k<18446744073709551616):intBits .or .u64 (x:Int) ((m*2^k:Nat):Int)=((x+m*2^k:Nat):Int):=by
 have h1:x<2^64:=om;have h2:m*2^k<2^64:=om;show IntKind.u64.wrap (((BitVec.ofInt 64 (x:Int)) ||| (BitVec.ofInt 64 ((m*2^k:Nat):Int))).toNat:Int)=_;rw[BitVec.ofInt_natCast,BitVec.ofInt_natCast,BitVec.toNat_or,BitVec.toNat_ofNat,BitVec.toNat_ofNat,Nat.mod_eq_of_lt h1,Nat.mod_eq_of_lt h2,Nat.or_comm,Nat.mul_comm m (2^k),←Nat.two_pow_add_eq_or_of_lt hx m,IntKind.wrap_u64];have e:2^k*m+x=x+2^k*m:=om;rw[e];have h3:x+2^k*m<18446744073709551616:=by rw[Nat.mul_comm];exact h
 omega
def rdO(b:List UInt8)(p:Nat):AObj:= .arr 0 2 [.agg [bys b,.int .i64 p]]
def RdK(torn:AV)(kr:Nat)(b:List UInt8)(H:Heap)(n:Nat)(r:Option (AV×Nat))(res:ARes)(H':Heap)(n':Nat):Prop:=
 match r with
 | some x=>res= .val x.1∧H'=H.put kr (some (rdO b x.2))∧n'=n
 | none=>res= .pan torn∧n≤n'∧∀k,k<n→k≠kr→H' k=H k
theorem RdK.val{torn:AV}{kr:Nat}{b:List UInt8}{H:Heap}{n:Nat}{r:Option (AV×Nat)}{v:AV}{H':Heap}{n':Nat}(h:RdK torn kr b H n r (.val v) H' n'):∃p,r=some (v,p)∧H'=H.put kr (some (rdO b p))∧n'=n:=by
 cases r with
 | some x=>obtain⟨h1,h2,h3⟩:=h;cases h1;exact⟨x.2,rfl,h2,h3⟩
 | none=>cases h.1
theorem RdK.pan{torn:AV}{kr:Nat}{b:List UInt8}{H:Heap}{n:Nat}{r:Option (AV×Nat)}{v:AV}{H':Heap}{n':Nat}(h:RdK torn kr b H n r (.pan v) H' n'):r=none∧v=torn∧n≤n'∧∀k,k<n→k≠kr→H' k=H k:=by
 cases r with
 | some x=>cases h.1
 | none=>obtain⟨h1,h2⟩:=h;cases h1;exact⟨rfl,rfl,h2⟩
theorem RdK.none{torn:AV}{kr:Nat}{b:List UInt8}{H:Heap}{n:Nat}{r:Option (AV×Nat)}{H':Heap}{n':Nat}(hr:r=none)(hn:n≤n')(h:∀k,k<n→k≠kr→H' k=H k):RdK torn kr b H n r (.pan torn) H' n':=by subst hr;exact⟨rfl,hn,h⟩
theorem RdK.some{torn:AV}{kr:Nat}{b:List UInt8}{H:Heap}{n:Nat}{r:Option (AV×Nat)}{v:AV}{p:Nat}{H':Heap}{n':Nat}(hr:r=some (v,p))(hH:H'=H.put kr (some (rdO b p)))(hn:n'=n):RdK torn kr b H n r (.val v) H' n':=by subst hr;exact⟨rfl,hH,hn⟩
theorem UN{α:Type}[Inhabited α](l:List α){i:Nat}(h:i<l.length):l.take (i+1)=l.take i++[l.getD i default]:=by
 rw[List.take_succ_eq_append_getElem h];simp[List.getD,List.getElem?_eq_getElem h]
theorem Xq{α:Type}(f:α→AV){n:Nat}(h:∀x,(f x).kl n):∀l:List α,Rv n (l.map f)
 | []=>trivial
 | x::l=>⟨h x,Xq f h l⟩
structure Wd where
 kind:Nat
 pos:Nat
 text:List UInt8
 num:Nat
 str:List UInt8
structure Qst where
 far:Nat
 nxt:Wd
 out:List Wd
 deep:Nat
def Wp(c:UInt8):Bool:=97≤c.toNat&&c.toNat≤122
def ZA(c:UInt8):Bool:=48≤c.toNat&&c.toNat≤57
def Xk(c:UInt8):Bool:=Wp c||ZA c||c.toNat==95
def hexV(c:UInt8):Option Nat:=if ZA c then some (c.toNat-48)else if 97≤c.toNat∧c.toNat≤102 then some (c.toNat-87)else none
def hexC(n:Nat):UInt8:=UInt8.ofNat (if n<10 then 48+n else 87+n)
def ZM(so:UInt8→Bool)(t:List UInt8)(p:Nat):Nat:=p+((t.drop p).takeWhile so).length
def Xy(c:UInt8):List UInt8:=
 if c.toNat=34∨c.toNat=92 then[92,c]
 else if c.toNat<32∨126<c.toNat then[92,hexC (c.toNat/16),hexC (c.toNat%16)]
 else[c]
def strG:Nat→List UInt8→Nat→List UInt8→List UInt8→Option (List UInt8×List UInt8×Nat)
 | 0,_,_,_,_=>none
 | f+1,l,i,s,x=>
   match l with
   | []=>none
   | c::l=>
     if c.toNat=34 then some (s,x++[34],i+1)
     else if c.toNat<32∨126<c.toNat then none
     else if c.toNat=92 then
       match l with
       | []=>none
       | d::l=>
         if d.toNat=34∨d.toNat=92 then strG f l (i+2) (s++[d]) (x++Xy d)
         else match l with
         | []=>none
         | e::l=>
           match hexV d,hexV e with
           | some a,some b=>strG f l (i+3) (s++[UInt8.ofNat (16*a+b)]) (x++Xy (UInt8.ofNat (16*a+b)))
           | _,_=>none
     else strG f l (i+1) (s++[c]) (x++Xy c)
def strF(t:List UInt8)(p:Nat):Option (Wd×Nat):=
 (strG (t.length+1) (t.drop (p+1)) (p+1) [] [34]).map fun x=>(⟨3,p,x.2.1,0,x.1⟩,x.2.2)
def numV(l:List UInt8):Nat:=(l.take 14).foldl (fun n c=>10*n+(c.toNat-48)) 0
def numF(t:List UInt8)(p:Nat):Option (Wd×Nat):=
 let d:=(t.drop p).takeWhile ZA
 if 1099511627776<numV d∨(1<d.length∧d.getD 0 0=48)then none else some (⟨2,p,d,numV d,[]⟩,ZM ZA t p)
def YO:List (List UInt8):=[[33,61],[60,61],[62,61],[61],[60],[62],[94],[40],[41]]
def XU(t:List UInt8)(p:Nat):Except Nat (Wd×Nat):=
 let q:=ZM (fun c=>c.toNat==32) t p
 match t.drop q with
 | []=> .ok (⟨0,q,[],0,[]⟩,q)
 | c::l=>
   if Wp c then .ok (⟨1,q,(t.drop q).takeWhile Xk,0,[]⟩,ZM Xk t q)
   else if ZA c then(match numF t q with | some x=> .ok x | none=> .error q)
   else if c.toNat=34 then(match strF t q with | some x=> .ok x | none=> .error q)
   else match YO.find? (fun s=>s.isPrefixOf (c::l))with
     | some s=> .ok (⟨4,q,s,0,[]⟩,q+s.length)
     | none=> .error q
def Ue(t:List UInt8)(s:Qst):Except Nat Qst:=(XU t s.far).map fun x=>{s with far:=x.2,nxt:=x.1}
def YK(t:List UInt8)(s:Qst):Except Nat (Wd×Qst):=(Ue t {s with out:=s.out++[s.nxt]}).map fun x=>(s.nxt,x)
def isF(s:Qst)(w:List UInt8):Bool:=(s.nxt.kind==1||s.nxt.kind==4)&&s.nxt.text==w
def Kt(t:List UInt8)(k:Nat)(s:Qst):Except Nat (Wd×Qst):=if s.nxt.kind=k then YK t s else .error s.nxt.pos
def JV(t:List UInt8)(ws:List (List UInt8))(s:Qst):Except Nat (List UInt8×Qst):=
 if s.nxt.kind=4∧s.nxt.text∈ws then(YK t s).map fun x=>(x.1.text,x.2)else .error s.nxt.pos
def Q4(t:List UInt8)(s:Qst):Except Nat Qst:=
 if 16<s.deep+1 then .error s.nxt.pos else(YK t {s with deep:=s.deep+1}).map (·.2)
inductive Tst where
 | or (a b:Tst)
 | and (a b:Tst)
 | not (a:Tst)
 | fam (n:Int) (sign:List UInt8)
 | cmp (qual:Bool) (sign s:List UInt8)
 | ts (sign:List UInt8) (n:Nat)
def famF(s:List Fml)(w:List UInt8):Int:=Xv s w 0
def wFam:List UInt8:=[102,97,109]
def Y1:List UInt8:=[113,117,97,108]
def YG:List UInt8:=[118,97,108,117,101]
def wTs:List UInt8:=[116,115]
def wOr:List UInt8:=[111,114]
def wAnd:List UInt8:=[97,110,100]
def wNot:List UInt8:=[110,111,116]
def sEq:List (List UInt8):=[[61],[33,61]]
def sCmp:List (List UInt8):=sEq++[[60],[60,61],[62],[62,61]]
def sAll:List (List UInt8):=sCmp++[[94]]
def JU(fs:List Fml)(t:List UInt8)(s:Qst):Except Nat (Tst×Qst):=
 if isF s wFam then(YK t s).bind fun x=>(JV t sEq x.2).bind fun y=>
   if y.2.nxt.kind≠1∨famF fs y.2.nxt.text<0 then .error y.2.nxt.pos
   else(YK t y.2).map fun z=>(.fam (famF fs y.2.nxt.text) y.1,z.2)
 else if isF s Y1∨isF s YG then(YK t s).bind fun x=>(JV t sAll x.2).bind fun y=>(Kt t 3 y.2).map fun z=>(.cmp (x.1.text==Y1) y.1 z.1.str,z.2)
 else if isF s wTs then(YK t s).bind fun x=>(JV t sCmp x.2).bind fun y=>(Kt t 2 y.2).map fun z=>(.ts y.1 z.1.num,z.2)
 else .error s.nxt.pos
mutual
def UZ(fs:List Fml)(t:List UInt8):Nat→Qst→Except Nat (Tst×Qst)
 | 0,s=> .error s.nxt.pos
 | f+1,s=>(X9 fs t f s).bind fun x=>orsF fs t f x.1 x.2
def orsF(fs:List Fml)(t:List UInt8):Nat→Tst→Qst→Except Nat (Tst×Qst)
 | 0,_,s=> .error s.nxt.pos
 | f+1,a,s=>if isF s wOr then(YK t s).bind fun x=>(X9 fs t f x.2).bind fun y=>orsF fs t f (.or a y.1) y.2 else .ok (a,s)
def X9(fs:List Fml)(t:List UInt8):Nat→Qst→Except Nat (Tst×Qst)
 | 0,s=> .error s.nxt.pos
 | f+1,s=>(XP fs t f s).bind fun x=>QM fs t f x.1 x.2
def QM(fs:List Fml)(t:List UInt8):Nat→Tst→Qst→Except Nat (Tst×Qst)
 | 0,_,s=> .error s.nxt.pos
 | f+1,a,s=>if isF s wAnd then(YK t s).bind fun x=>(XP fs t f x.2).bind fun y=>QM fs t f (.and a y.1) y.2 else .ok (a,s)
def XP(fs:List Fml)(t:List UInt8):Nat→Qst→Except Nat (Tst×Qst)
 | 0,s=> .error s.nxt.pos
 | f+1,s=>
   if isF s wNot then(Q4 t s).bind fun x=>(XP fs t f x).map fun y=>(.not y.1,{y.2 with deep:=y.2.deep-1})
   else if isF s [40]then(Q4 t s).bind fun x=>(UZ fs t f x).bind fun y=>
     if isF y.2 [41]then(YK t {y.2 with deep:=y.2.deep-1}).map fun z=>(y.1,z.2)else .error y.2.nxt.pos
   else JU fs t s
end
def Wz:Option Wd→List Wd→List UInt8
 | _,[]=>[]
 | none,w::l=>w.text++Wz (some w) l
 | some v,w::l=>(if w.text≠[41]∧v.text≠[40]then[32]else[])++w.text++Wz (some w) l
def Wu(fs:List Fml)(t:List UInt8):Except Nat (Tst×List UInt8):=
 if 512<t.length then .error 512
 else(Ue t ⟨0,⟨0,0,[],0,[]⟩,[],0⟩).bind fun s=>(UZ fs t (8*t.length+16) s).bind fun x=>
   if x.2.nxt.kind≠0 then .error x.2.nxt.pos else .ok (x.1,Wz none x.2.out)
theorem XK(so:UInt8→Bool)(t:List UInt8)(p:Nat)(hp:p≤t.length):p≤ZM so t p∧ZM so t p≤t.length:=by
 unfold ZM;have h:((t.drop p).takeWhile so).length≤(t.drop p).length:=(List.takeWhile_sublist _).length_le;rw[List.length_drop]at h;omega
theorem U9(so:UInt8→Bool)(t:List UInt8)(p:Nat):(t.take (ZM so t p)).drop p=(t.drop p).takeWhile so:=by
 unfold ZM;rw[List.drop_take,Nat.add_sub_cancel_left];exact(List.prefix_iff_eq_take.1 (List.takeWhile_prefix so)).symm
theorem U6{so:UInt8→Bool}{t:List UInt8}{p:Nat}{c:UInt8}{l:List UInt8}(h:t.drop p=c::l)(hc:so c=true):p<ZM so t p:=by
 unfold ZM;rw[h,List.takeWhile_cons,if_pos hc,qi];omega
theorem Lx(so:UInt8→Bool)(l:List UInt8):(l.takeWhile so).length≤l.length:=(List.takeWhile_sublist _).length_le
theorem WQ(c:UInt8):(Xy c).length≤3:=by
 unfold Xy;split
 ·simp
 ·split<;>simp
theorem Kv:∀(f:Nat) (l:List UInt8) (i:Nat) (s x:List UInt8) (r:List UInt8×List UInt8×Nat),strG f l i s x=some r→i<r.2.2∧r.2.2≤i+l.length∧r.2.1.length≤x.length+3*l.length+1
 | 0,_,_,_,_,_,h=>by simp[strG]at h
 | f+1,l,i,s,x,r,h=>by
   unfold strG at h;split at h
   ·cases h
   ·rename_i c l;split at h
    ·cases h;simp
    split at h
    ·cases h
    split at h
    ·split at h
     ·cases h
     ·rename_i d l;split at h
      ·have:=Kv f _ _ _ _ _ h;have:=WQ d;exact kck
      ·split at h
       ·cases h
       ·rename_i e l;split at h
        ·rename_i a b _ _;have:=Kv f _ _ _ _ _ h;have:=WQ (UInt8.ofNat (16*a+b));exact kck
        ·cases h
    ·have:=Kv f _ _ _ _ _ h;have:=WQ c;exact kck
theorem UK{t:List UInt8}(ht:t.length≤512){p:Nat}(hp:p≤t.length){w:Wd}{q:Nat}(h:XU t p= .ok (w,q)):p≤q∧q≤t.length∧(w.kind=0→q=t.length)∧(w.kind≠0→p<q)∧w.text.length≤2048:=by
 obtain⟨h1,h2⟩:=XK (fun c=>c.toNat==32) t p hp;unfold XU at h;simp only at h;split at h
 ·rename_i hd;cases h;have:t.length≤ZM (fun c=>c.toNat==32) t p:=by
    rcases Nat.lt_or_ge (ZM (fun c=>c.toNat==32) t p) t.length with g | g
    ·rw[List.drop_eq_getElem_cons g]at hd;cases hd
    ·exact g
  refine⟨h1,h2,fun _=>om,fun h=>absurd rfl h,osi⟩
 ·rename_i c l hd;have hq:ZM (fun c=>c.toNat==32) t p<t.length:=by
    rcases Nat.lt_or_ge (ZM (fun c=>c.toNat==32) t p) t.length with g | g
    ·exact g
    ·rw[List.drop_eq_nil_of_le g]at hd;cases hd
  generalize ZM (fun c=>c.toNat==32) t p=k at*;have hk:=congrArg List.length hd;rw[List.length_drop,qi]at hk;split at h
  ·rename_i hs;cases h;obtain⟨g1,g2⟩:=XK Xk t k om;have g3:=U6 (so:=Xk) hd (by simp[Xk,hs]);have g4:=Lx Xk (t.drop k);rw[List.length_drop]at g4;exact⟨om,g2,fun h=>(by cases h),fun _=>om,by show(List.takeWhile Xk _).length≤_;omega⟩
  split at h
  ·rename_i hs;split at h
   ·rename_i x hx;cases h;unfold numF at hx;simp only at hx;split at hx
    ·cases hx
    ·cases hx;obtain⟨g1,g2⟩:=XK ZA t k om;have g3:=U6 (so:=ZA) hd hs;have g4:=Lx ZA (t.drop k);rw[List.length_drop]at g4;exact⟨om,g2,fun h=>(by cases h),fun _=>om,by show(List.takeWhile ZA _).length≤_;omega⟩
   ·cases h
  split at h
  ·split at h
   ·rename_i x hx;cases h;unfold strF at hx;rw[Option.map_eq_some_iff]at hx;obtain⟨r,hr,he⟩:=hx;cases he;have:=Kv _ _ _ _ _ _ hr;rw[List.length_drop]at this;simp only[qi,List.length_nil]at this;exact⟨om,om,fun h=>(by cases h),fun _=>om,by show r.2.1.length≤_;omega⟩
   ·cases h
  ·split at h
   ·rename_i s hs;cases h;have hm:=List.mem_of_find?_eq_some hs;have hp2:=List.find?_some hs;have hpre:s <+: c::l:=by simpa using hp2
    have hl:=hpre.length_le;rw[qi]at hl;have hb:1≤s.length∧s.length≤2:=by
      simp only[YO,List.mem_cons,List.not_mem_nil,or_false]at hm;rcases hm with rfl | rfl | rfl | rfl | rfl | rfl | rfl | rfl | rfl<;>simp
    exact⟨om,om,fun h=>(by cases h),fun _=>om,by show s.length≤_;omega⟩
   ·cases h
def Qst.m(t:List UInt8)(s:Qst):Nat:=(t.length-s.far)+(if s.nxt.kind=0 then 0 else 1)
structure QI(t:List UInt8)(s:Qst):Prop where
 far:s.far≤t.length
 out:s.out.length+s.m t≤t.length+1
 deep:s.deep≤16
 text:∀w∈s.out,w.text.length≤2048
 next:s.nxt.text.length≤2048
def Qgo(t:List UInt8)(s s':Qst):Prop:=QI t s'∧s'.m t≤s.m t∧s'.deep=s.deep
theorem Qgo.trans{t:List UInt8}{a b c:Qst}(h:Qgo t a b)(h':Qgo t b c):Qgo t a c:=⟨h'.1,Nat.le_trans h'.2.1 h.2.1,h'.2.2.trans h.2.2⟩
theorem YQ{t:List UInt8}(ht:t.length≤512){s:Qst}(hI:QI t s)(hk:s.nxt.kind≠0){w:Wd}{s':Qst}(h:YK t s= .ok (w,s')):Qgo t s s'∧s'.m t+1≤s.m t∧w=s.nxt:=by
 unfold YK Ue at h;simp only at h;cases hw:XU t s.far with
 | error p=>rw[hw]at h;cases h
 | ok x=>
   rw[hw]at h;have hs:s'={far:=x.2,nxt:=x.1,out:=s.out++[s.nxt],deep:=s.deep}∧w=s.nxt:=by cases h;exact⟨rfl,rfl⟩
   obtain⟨rfl,rfl⟩:=hs;obtain⟨g1,g2,g3,g4,g5⟩:=UK ht hI.far (w:=x.1) (q:=x.2) hw;have hm:({far:=x.2,nxt:=x.1,out:=s.out++[s.nxt],deep:=s.deep}:Qst).m t+1≤s.m t:=by
     unfold Qst.m;simp only;rw[if_neg hk];split
     ·omega
     ·rename_i hn;have:=g4 hn;omega
   refine⟨⟨⟨g2,?_,hI.deep,fun w hw2=> ?_,g5⟩,om,rfl⟩,hm,rfl⟩
   ·have:=hI.out;show(s.out++[s.nxt]).length+_≤_;rw[qe,qh];omega
   ·rcases List.mem_append.1 hw2 with h1 | h1
    ·exact hI.text w h1
    ·rw[List.mem_singleton.1 h1];exact hI.next
theorem YV{s:Qst}{w:List UInt8}(h:isF s w=true):s.nxt.kind≠0:=by
 intro e;simp[isF,e]at h
theorem map_ok{ε α β:Type}{f:α→β}{x:Except ε α}{b:β}(h:x.map f= .ok b):∃a,x= .ok a∧f a=b:=by
 cases x with
 | error e=>cases h
 | ok a=>cases h;exact⟨a,rfl,rfl⟩
theorem bind_ok{ε α β:Type}{f:α→Except ε β}{x:Except ε α}{b:β}(h:x.bind f= .ok b):∃a,x= .ok a∧f a= .ok b:=by
 cases x with
 | error e=>cases h
 | ok a=>exact⟨a,rfl,h⟩
theorem Np{t:List UInt8}(ht:t.length≤512){k:Nat}(hk:k≠0){s:Qst}(hI:QI t s){w:Wd}{s':Qst}(h:Kt t k s= .ok (w,s')):Qgo t s s':=by
 unfold Kt at h;split at h
 ·rename_i e;exact(YQ ht hI om h).1
 ·cases h
theorem QW{t:List UInt8}(ht:t.length≤512){ws:List (List UInt8)}{s:Qst}(hI:QI t s){w:List UInt8}{s':Qst}(h:JV t ws s= .ok (w,s')):Qgo t s s':=by
 unfold JV at h;split at h
 ·rename_i e;obtain⟨a,h1,h2⟩:=map_ok h;cases h2;exact(YQ ht hI om (w:=a.1) (s':=a.2) h1).1
 ·cases h
theorem KI{t:List UInt8}(ht:t.length≤512){s:Qst}(hI:QI t s)(hk:s.nxt.kind≠0){s':Qst}(h:Q4 t s= .ok s'):QI t s'∧s'.m t+1≤s.m t∧s'.deep=s.deep+1:=by
 unfold Q4 at h;split at h
 ·cases h
 ·rename_i hd;obtain⟨a,h1,h2⟩:=map_ok h;cases h2;have hI2:QI t {s with deep:=s.deep+1}:=⟨hI.far,hI.out,by simp only;omega,hI.text,hI.next⟩;have h3:=YQ ht hI2 hk (w:=a.1) (s':=a.2) h1;exact⟨h3.1.1,h3.2.1,h3.1.2.2⟩
theorem Qgo.shallow{t:List UInt8}{s:Qst}(hI:QI t s):QI t {s with deep:=s.deep-1}:=⟨hI.far,hI.out,by have:=hI.deep;simp only;omega,hI.text,hI.next⟩
theorem testF_go{fs:List Fml}{t:List UInt8}(ht:t.length≤512){s:Qst}(hI:QI t s){a:Tst}{s':Qst}(h:JU fs t s= .ok (a,s')):Qgo t s s':=by
 unfold JU at h;split at h
 ·rename_i hi;obtain⟨x,h1,h⟩:=bind_ok h;obtain⟨y,h2,h⟩:=bind_ok h;have g1:=(YQ ht hI (YV hi) (w:=x.1) (s':=x.2) h1).1;have g2:=QW ht g1.1 (w:=y.1) (s':=y.2) h2;split at h
  ·cases h
  ·rename_i hc;obtain⟨z,h3,h⟩:=map_ok h;cases h;exact(g1.trans g2).trans (YQ ht g2.1 om (w:=z.1) (s':=z.2) h3).1
 split at h
 ·rename_i hi;have hk:s.nxt.kind≠0:=by rcases hi with hi | hi<;>exact YV hi
  obtain⟨x,h1,h⟩:=bind_ok h;obtain⟨y,h2,h⟩:=bind_ok h;obtain⟨z,h3,h⟩:=map_ok h;cases h;have g1:=(YQ ht hI hk (w:=x.1) (s':=x.2) h1).1;exact kch
 split at h
 ·rename_i hi;obtain⟨x,h1,h⟩:=bind_ok h;obtain⟨y,h2,h⟩:=bind_ok h;obtain⟨z,h3,h⟩:=map_ok h;cases h;have g1:=(YQ ht hI (YV hi) (w:=x.1) (s':=x.2) h1).1;exact kch
 ·cases h
section
variable {fs:List Fml}{t:List UInt8}
theorem Vq(ht:t.length≤512):∀f,(∀s a s',QI t s→UZ fs t f s= .ok (a,s')→Qgo t s s')∧(∀b s a s',QI t s→orsF fs t f b s= .ok (a,s')→Qgo t s s')∧(∀s a s',QI t s→X9 fs t f s= .ok (a,s')→Qgo t s s')∧(∀b s a s',QI t s→QM fs t f b s= .ok (a,s')→Qgo t s s')∧(∀s a s',QI t s→XP fs t f s= .ok (a,s')→Qgo t s s')
 | 0=>by
   refine⟨?_,?_,?_,?_,?_⟩<;>intros<;>rename_i h
   ·simp only[UZ]at h;cases h
   ·simp only[orsF]at h;cases h
   ·simp only[X9]at h;cases h
   ·simp only[QM]at h;cases h
   ·simp only[XP]at h;cases h
 | f+1=>by
   obtain⟨i1,i2,i3,i4,i5⟩:=Vq ht f;refine⟨fun s a s' hI h=> ?_,fun b s a s' hI h=> ?_,fun s a s' hI h=> ?_,fun b s a s' hI h=> ?_,fun s a s' hI h=> ?_⟩
   ·simp only[UZ]at h;obtain⟨x,h1,h⟩:=bind_ok h;have g:=i3 s x.1 x.2 hI h1;exact g.trans (i2 _ _ _ _ g.1 h)
   ·simp only[orsF]at h;split at h
    ·rename_i hi;obtain⟨x,h1,h⟩:=bind_ok h;obtain⟨y,h2,h⟩:=bind_ok h;have g:=(YQ ht hI (YV hi) (w:=x.1) (s':=x.2) h1).1;have g2:=i3 _ y.1 y.2 g.1 h2;exact(g.trans g2).trans (i2 _ _ _ _ g2.1 h)
    ·cases h;exact⟨hI,Nat.le_refl _,rfl⟩
   ·simp only[X9]at h;obtain⟨x,h1,h⟩:=bind_ok h;have g:=i5 s x.1 x.2 hI h1;exact g.trans (i4 _ _ _ _ g.1 h)
   ·simp only[QM]at h;split at h
    ·rename_i hi;obtain⟨x,h1,h⟩:=bind_ok h;obtain⟨y,h2,h⟩:=bind_ok h;have g:=(YQ ht hI (YV hi) (w:=x.1) (s':=x.2) h1).1;have g2:=i5 _ y.1 y.2 g.1 h2;exact(g.trans g2).trans (i4 _ _ _ _ g2.1 h)
    ·cases h;exact⟨hI,Nat.le_refl _,rfl⟩
   ·simp only[XP]at h;split at h
    ·rename_i hi;obtain⟨x,h1,h⟩:=bind_ok h;obtain⟨y,h2,h⟩:=map_ok h;cases h;obtain⟨g1,g2,g3⟩:=KI ht hI (YV hi) h1;have g4:=i5 _ y.1 y.2 g1 h2;refine⟨Qgo.shallow g4.1,?_,?_⟩
     ·have e:({y.2 with deep:=y.2.deep-1}:Qst).m t=y.2.m t:=rfl;rw[e];have:=g4.2.1;omega
     ·show y.2.deep-1=s.deep;rw[g4.2.2,g3];omega
    split at h
    ·rename_i hi;obtain⟨x,h1,h⟩:=bind_ok h;obtain⟨y,h2,h⟩:=bind_ok h;obtain⟨g1,g2,g3⟩:=KI ht hI (YV hi) h1;have g4:=i1 _ y.1 y.2 g1 h2;split at h
     ·rename_i hi2;obtain⟨z,h3,h⟩:=map_ok h;cases h;have g5:=YQ ht (Qgo.shallow g4.1) (YV hi2) (w:=z.1) (s':=z.2) h3;have e:({y.2 with deep:=y.2.deep-1}:Qst).m t=y.2.m t:=rfl;refine⟨g5.1.1,?_,?_⟩
      ·have h6:=g5.1.2.1;rw[e]at h6;have:=g4.2.1;omega
      ·have h6:=g5.1.2.2;show z.2.deep=s.deep;rw[h6];show y.2.deep-1=s.deep;rw[g4.2.2,g3];omega
     ·cases h
    ·exact testF_go ht hI h
end
section
variable {t:List UInt8}{f i:Nat}{s x:List UInt8}
theorem drop_at(h:i<t.length):t.drop i=t.getD i 0::t.drop (i+1):=by
 rw[List.drop_eq_getElem_cons h];simp[List.getD,h]
theorem strG_end(h:t.length≤i):strG (f+1) (t.drop i) i s x=none:=by
 rw[List.drop_eq_nil_of_le h];rfl
theorem Nz(h:i<t.length)(hc:(t.getD i 0).toNat=34):strG (f+1) (t.drop i) i s x=some (s,x++[34],i+1):=by
 rw[drop_at h];unfold strG;simp only;rw[if_pos hc]
theorem strG_bad(h:i<t.length)(h0:¬(t.getD i 0).toNat=34)(hc:(t.getD i 0).toNat<32∨126<(t.getD i 0).toNat):strG (f+1) (t.drop i) i s x=none:=by
 rw[drop_at h];unfold strG;simp only;rw[if_neg h0,if_pos hc]
theorem NA(h : i < t.length)(h0 : ¬ (t.getD i 0).toNat = 34)(h1 : ¬ ((t.getD i 0).toNat < 32 ∨ 126 < (t.getD i 0).toNat))(h2 : ¬ (t.getD i 0).toNat = 92):
   strG (f+1) (t.drop i) i s x=strG f (t.drop (i+1)) (i+1) (s++[t.getD i 0]) (x++Xy (t.getD i 0)):=by
 rw[drop_at h];conv=>lhs;unfold strG
 simp only;rw[if_neg h0,if_neg h1,if_neg h2]
theorem strG_esc0(h:i<t.length)(hc:(t.getD i 0).toNat=92)(hl:t.length≤i+1):strG (f+1) (t.drop i) i s x=none:=by
 rw[drop_at h,List.drop_eq_nil_of_le hl];unfold strG;simp only;rw[if_neg om,if_neg om,if_pos hc]
theorem strG_esc1(h : i + 1 < t.length)(hc : (t.getD i 0).toNat = 92)(hd : (t.getD (i + 1) 0).toNat = 34 ∨ (t.getD (i + 1) 0).toNat = 92):
   strG (f+1) (t.drop i) i s x=strG f (t.drop (i+2)) (i+2) (s++[t.getD (i+1) 0]) (x++Xy (t.getD (i+1) 0)):=by
 rw[drop_at (by omega:i<t.length),drop_at h];conv=>lhs;unfold strG
 simp only;rw[if_neg om,if_neg om,if_pos hc,if_pos hd]
theorem strG_esc2(h : i + 1 < t.length)(hc : (t.getD i 0).toNat = 92)(hd : ¬ ((t.getD (i + 1) 0).toNat = 34 ∨ (t.getD (i + 1) 0).toNat = 92))(hl : t.length ≤ i + 2):
   strG (f+1) (t.drop i) i s x=none:=by
 rw[drop_at (by omega:i<t.length),drop_at h,List.drop_eq_nil_of_le hl];unfold strG;simp only;rw[if_neg om,if_neg om,if_pos hc,if_neg hd]
theorem strG_esc3(h : i + 2 < t.length)(hc : (t.getD i 0).toNat = 92)(hd : ¬ ((t.getD (i + 1) 0).toNat = 34 ∨ (t.getD (i + 1) 0).toNat = 92))(hx : hexV (t.getD (i + 1) 0) = none ∨ hexV (t.getD (i + 2) 0) = none):
   strG (f+1) (t.drop i) i s x=none:=by
 rw[drop_at (by omega:i<t.length),drop_at (by omega:i+1<t.length),drop_at h];unfold strG;simp only;rw[if_neg om,if_neg om,if_pos hc,if_neg hd];rcases hx with hx | hx
 ·rw[hx]
 ·rw[hx];cases hexV (t.getD (i+1) 0)<;>rfl
theorem strG_esc4(h : i + 2 < t.length)(hc : (t.getD i 0).toNat = 92)(hd : ¬ ((t.getD (i + 1) 0).toNat = 34 ∨ (t.getD (i + 1) 0).toNat = 92)){a b : Nat}(ha : hexV (t.getD (i + 1) 0) = some a)(hb : hexV (t.getD (i + 2) 0) = some b):
   strG (f+1) (t.drop i) i s x=strG f (t.drop (i+3)) (i+3) (s++[UInt8.ofNat (16*a+b)]) (x++Xy (UInt8.ofNat (16*a+b))):=by
 rw[drop_at (by omega:i<t.length),drop_at (by omega:i+1<t.length),drop_at h];conv=>lhs;unfold strG
 simp only;rw[if_neg om,if_neg om,if_pos hc,if_neg hd,ha,hb]
theorem Ni{c:UInt8}{a:Nat}(h:hexV c=some a):a<16:=by
 unfold hexV ZA at h;split at h
 ·rename_i hc;cases h;simp at hc;omega
 ·split at h
  ·cases h;omega
  ·cases h
end
instance:Inhabited Wd:=⟨⟨0,0,[],0,[]⟩⟩
def XX(o:Option Wd)(w:Wd):List UInt8:=match o with | none=>[] | some v=>if w.text≠[41]∧v.text≠[40]then[32]else[]
theorem Je(o:Option Wd)(w:Wd)(l:List Wd):Wz o (w::l)=XX o w++w.text++Wz (some w) l:=by
 cases o with
 | none=>rfl
 | some v=>rfl
theorem MK:∀(l:List Wd) (o:Option Wd) (w:Wd),Wz o (l++[w])=Wz o l++(XX (match l.getLast? with | some v=>some v | none=>o) w++w.text)
 | [],o,w=>by cases o<;>simp[Wz,XX]
 | v::l,o,w=>by
   rw[List.cons_append,Je,Je,MK l (some v) w];have e:(match (v::l).getLast? with | some u=>some u | none=>o)=(match l.getLast? with | some u=>some u | none=>some v):=by
     rw[List.getLast?_cons];cases l.getLast? <;>rfl
   rw[e];simp[qf]
theorem canonG_take(l:List Wd){i:Nat}(h:i<l.length):Wz none (l.take (i+1))=Wz none (l.take i)++(XX (if i=0 then none else some (l.getD (i-1) default)) (l.getD i default)++(l.getD i default).text):=by
 have e:l.take (i+1)=l.take i++[l.getD i default]:=by
   rw[List.take_succ_eq_append_getElem h];simp[List.getD,List.getElem?_eq_getElem h]
 rw[e,MK];have e2:(l.take i).getLast? =if i=0 then none else some (l.getD (i-1) default):=by
   by_cases hi:i=0
   ·subst hi;rfl
   ·rw[if_neg hi,List.getLast?_eq_getElem?,qk,Nat.min_eq_left om,List.getElem?_take_of_lt om,List.getElem?_eq_getElem om];simp[List.getD,List.getElem?_eq_getElem (show i-1<l.length by omega)]
 rw[e2];by_cases hi:i=0<;>simp[hi]
theorem canonSep_len(o:Option Wd)(w:Wd):(XX o w).length≤1:=by
 unfold XX;cases o with
 | none=>simp
 | some v=>simp only;split<;>simp
theorem PP:∀(l:List Wd) (o:Option Wd),(∀w∈l,w.text.length≤2048)→(Wz o l).length≤2049*l.length
 | [],o,_=>by cases o<;>simp[Wz]
 | w::l,o,h=>by
   have h1:=PP l (some w) fun x hx=>h x (by simp[hx]);have h2:=h w osi;have h3:=canonSep_len o w;rw[Je];simp only[qe,qi];omega
theorem ZY{ε α β:Type}(a:α)(f:α→Except ε β):(Except.ok a:Except ε α).bind f=f a:=rfl
theorem WU{ε α β:Type}(a:α)(f:α→β):(Except.ok a:Except ε α).map f= .ok (f a):=rfl
theorem VD{ε α β:Type}(a:ε)(f:α→Except ε β):(Except.error a:Except ε α).bind f= .error a:=rfl
theorem er_map{ε α β:Type}(a:ε)(f:α→β):(Except.error a:Except ε α).map f= .error a:=rfl
theorem QI.outs{t:List UInt8}{s:Qst}(h:QI t s)(ht:t.length≤512):s.out.length≤1000000:=by have:=h.out;omega
section
variable {torn:AV}{kr kc kk:Nat}{b:List UInt8}{H:Heap}{n:Nat}{r:Option (CmdE×Nat)}{H':Heap}{n':Nat}
end
end Go.Rt
namespace Go.Sx
open Go
def LowO(H0 H H':Heap)(n k:Nat):Prop:=
 (H' k=H k∧(H k=H0 k∨∀o,H k=some o→o.kl n))∨∃ver e els els',H k=some (.arr ver e els)∧H' k=some (.arr ver e els')∧FrzL H n els els'
theorem Step.fin2{c0 c : Ctx}{H0 H H' : Heap}{n n' : Nat}{w0 w : World}(hs0 : Sim c0 H0 n w0)(h : Step c0 H0 w0 c H n' w)
   (hlow:∀k,k<n→LowO H0 H H' n k) (hhigh:∀k,n≤k→H' k=H0 k):Step c0 H0 w0 (c.frz H n w) H' n w:=by
 have hu:c0.under n:=fun k v hk=>(hs0.fresh k hk).2 v;have hnone:∀k,n≤k→H' k=none:=fun k hk=>by rw[hhigh k hk];exact(hs0.fresh k hk).1
 have hkl:∀k o,H' k=some o→k<n∧∃o1,H k=some o1∧o1.ver=o.ver∧ZR (c.frz H n w) k w o:=fun k o hk=>by
   have hkn:k<n:=by
     exact kcI
   refine⟨hkn,?_⟩;rcases hlow k hkn with⟨h1,h2⟩ | ⟨ver,e,els,els',h1,h2,h3⟩
   ·rw[h1]at hk;refine⟨o,hk,rfl,(h.sim.own k o hk).low (c.frz_low H n w) hkn ?_⟩;exact kcC
   ·rw[h2]at hk;cases hk;refine⟨_,h1,rfl,?_⟩;have ho:=h.sim.own k _ h1;simp only[ZR]at ho ⊢;obtain⟨l,g1,hm⟩:=ho;refine⟨l,(c.frz_low H n w).ρ hkn g1,?_⟩;cases l with
    | nil=>
      simp only at hm ⊢;subst hm;cases h3;rfl
    | blk b cap e'=>
      obtain⟨e1,e2,e3,arr,ty,ds,e4,e5,hr,e6⟩:=hm;exact⟨e1,h3.szAll e2,by rw[←h3.len];exact e3,arr,ty,ds,e4,e5,FrzL.relF h.sim h3 hr,e6⟩
 have hbo:∀k (o o1:AObj),k<n→o1.ver=o.ver→Zm (c.frz H n w) k o=Zm c k o1:=fun k o o1 hk hv=>by
   unfold Zm;have:(c.frz H n w).ρ k o.ver=c.ρ k o1.ver:=by show(if k<n then _ else none)=_;rw[if_pos hk,hv]
   rw[this]
 exact{
   le:={
     ρ:=fun{k v l} hk=>by
       have hkn:k<n:=by
         exact ka8
       exact(c.frz_low H n w).ρ hkn (h.le.ρ hk)
     ro:=fun hb=>(c.frz_low H n w).ro (h.le.ro hb)}
   sim:={
     ro:=fun b a hb=>by
       simp only[Ctx.frz]at hb;split at hb
       ·rename_i a' hr;cases hb;exact h.sim.ro b _ hr
       ·exact kan
     own:=fun k o hk=>by
       obtain⟨_,_,_,_,h3⟩:=hkl k o hk;exact h3
     sep:=fun k o b hk hb=>by
       obtain⟨h1,o1,h2,h3,_⟩:=hkl k o hk;rw[hbo k o o1 h1 h3]at hb;have h4:=h.sim.sep k o1 b h2 hb;simp only[Ctx.frz,h4];rw[if_neg];rintro⟨k',ver,e,els,hn',hk',hb'⟩;have:=h.sim.inj k k' o1 _ b h2 hk' hb hb';omega
     inj:=fun k k' o o' b h1 h2 b1 b2=>by
       obtain⟨h3,o1,h4,h5,_⟩:=hkl k o h1;obtain⟨h6,o2,h7,h8,_⟩:=hkl k' o' h2;rw[hbo k o o1 h3 h5]at b1;rw[hbo k' o' o2 h6 h8]at b2;exact h.sim.inj k k' o1 o2 b h4 h7 b1 b2
     fresh:=fun k hk=>⟨hnone k hk,fun v=>by show(if k<n then _ else none)=none;rw[if_neg om]⟩
     vers:=fun k o v hk hv=>by
       obtain⟨h3,o1,h4,h5,_⟩:=hkl k o hk;show(if k<n then c.ρ k v else none)=none;rw[if_pos h3];exact h.sim.vers k o1 v h4 (by rw[h5];exact hv)}
   fr:=h.fr
   new:=fun b ⟨k,o,hk,hb⟩=>by
     obtain⟨h3,o1,h4,h5,_⟩:=hkl k o hk;rw[hbo k o o1 h3 h5]at hb;exact h.new b ⟨k,o1,h4,hb⟩}
theorem Si{P : Program}{f : FuncId}{args : List AV}{H : Heap}{n : Nat}{K : ARes → Heap → Nat → Prop}
   (h:Zn P f args H n fun res H1 n'=>(∃r r' H',res= .val r∧(∀k,k<n→LowO H H1 H' n k)∧(∀k,n≤k→H' k=H k)∧Frz H1 n r r'∧K (.val r') H' n)∨∃p,res= .pan p∧K (.pan p) H1 n'):Zn P f args H n K:=
 fun c w vs hs hr=>(h c w vs hs hr).mono fun e w' ⟨res,c',H1,n',hd,hst,hm⟩=>by
   rcases hd with⟨r,r',H',hres,hlow,hhigh,hfrz,V⟩ | ⟨p,hres,V⟩
   ·subst hres;refine⟨.val r',c'.frz H1 n w',H',n,V,Step.fin2 hs hst hlow hhigh,?_⟩;exact ka9
   ·subst hres;exact⟨.pan p,c',H1,n',V,hst,hm⟩
end Go.Sx
namespace Go.Rt
open Go Go.Sx
theorem kl_celAV(x:CelE)(n:Nat):(Zj x).kl n:=⟨trivial,Z4 _ _,trivial,Z4 _ _,trivial⟩
theorem Pj(x:RowE)(n:Nat):(Zf x).kl n:=⟨Z4 _ _,Xq Zj (fun x=>kl_celAV x n) _,trivial⟩
section
variable {torn:AV}{kr kc:Nat}{b:List UInt8}{f:RepE→AV}{H:Heap}{n:Nat}{r:Option (RepE×Nat)}{H':Heap}{n':Nat}
end
def Rds{α:Type}(rd:List UInt8→Nat→Option (α×Nat))(e:List UInt8)(x:α):Prop:=
 ∀b p v,p≤b.length→b.drop p=e++v→rd b p=some (x,p+e.length)
theorem dadv{b:List UInt8}{p:Nat}{e v:List UInt8}(hp:p≤b.length)(h:b.drop p=e++v):p+e.length≤b.length∧b.drop (p+e.length)=v:=by
 have h1:=congrArg List.length h;rw[List.length_drop,qe]at h1;refine⟨om,?_⟩;have h2:=congrArg (List.drop e.length) h;rw[List.drop_drop,List.drop_left]at h2;exact h2
theorem dget{b:List UInt8}{p:Nat}{c:UInt8}{v:List UInt8}(h:b.drop p=c::v):b.getD p 0=c:=by
 have h2:(b.drop p)[0]? =some c:=by rw[h];rfl
 rw[List.getElem?_drop,Nat.add_zero]at h2;simp[List.getD,h2]
theorem rds_byte(c:UInt8):Rds Qe [c] (c.toNat:Int):=fun b p v hp h=>by
 have h1:=(dadv hp h).1;simp only[qi,List.length_nil]at h1;rw[Qe,if_neg om,dget (show b.drop p=c::v from h)];rfl
theorem ruL_B : ∀ (f : Nat) (b : List UInt8) (p v a : Nat) (w : List UInt8), f ≤ 10 → 0 < f → p + (10 - f) ≤ b.length → b.drop (p + (10 - f)) = Zi v ++ w → v * 2 ^ (7 * (10 - f)) < 18446744073709551616 → (0 < 10 - f → 0 < v) →
   ruL b p f a=(a+v*2^(7*(10-f)),p+(10-f)+(Zi v).length,0)
 | 0,_,_,_,_,_,_,h,_,_,_,_=>absurd h (Nat.lt_irrefl 0)
 | f+1,b,p,v,a,w,hf,_,hp,hd,hm,hz=>by
   have e1:10-(f+1)=9-f:=om;rw[e1]at hp hd hm hz ⊢;obtain⟨l1,d1⟩:=dadv hp hd;have hpos:=uintB_pos v;unfold ruL;rw[if_neg om];by_cases hv:v<128
   ·have hu:=QO hv;rw[hu]at hd ⊢;have ht:(UInt8.ofNat v).toNat=v:=oz;rw[dget hd,ht,if_neg,if_pos hv,if_neg (by rintro⟨g1,g2⟩;have:=hz g2;omega),Nat.mod_eq_of_lt hv]
    ·rfl
    ·rintro⟨h9,h1⟩;rw[h9]at hm;simp at hm;omega
   ·have hu:=QP (by omega:128≤v);rw[hu]at hd ⊢;have ht:(UInt8.ofNat (v%128+128)).toNat=v%128+128:=oz;obtain⟨l2,d2⟩:=dadv (e:=[UInt8.ofNat (v%128+128)]) (v:=Zi (v/128)++w) hp hd;simp only[qi,List.length_nil]at l2 d2;have hf0:0<f:=by
      rcases Nat.eq_zero_or_pos f with h | h
      ·subst h;simp at hm;omega
      ·exact h
    have e2:p+(9-f)+1=p+(10-f):=om;have e3:2^(7*(10-f))=2^(7*(9-f))*128:=by rw[show 7*(10-f)=7*(9-f)+7 by omega,Nat.pow_add]
    have e4:v/128*2^(7*(10-f))=128*(v/128)*2^(7*(9-f)):=by rw[e3,Nat.mul_comm _ 128,←Nat.mul_assoc,Nat.mul_comm (v/128) 128]
    rw[dget hd,ht,if_neg,if_neg om,ruL_B f b p (v/128) _ w om hf0 om (by rw[←e2];exact d2) ?_ om]
    ·rw[e4,show(v%128+128)%128=v%128 by omega,qg,←Nat.add_mul,Nat.add_comm (v%128),Nat.div_add_mod];simp only[qi];exact Prod.ext rfl (Prod.ext (by show p+(10-f)+_=p+(9-f)+(_+1);omega) rfl)
    ·rw[e4];exact Nat.lt_of_le_of_lt (Nat.mul_le_mul_right _ (Nat.mul_div_le v 128)) hm
    ·rintro⟨h9,h1⟩;rw[h9]at hm;simp at hm;omega
theorem ruB_B{b:List UInt8}{p v:Nat}{w:List UInt8}(hv:v<18446744073709551616)(hp:p≤b.length)(hd:b.drop p=Zi v++w):ruB b p=(v,p+(Zi v).length,0):=by
 unfold ruB;rw[if_neg om,ruL_B 10 b p v 0 w om om (by simpa using hp) (by simpa using hd) (by simpa using hv) om];simp
theorem rds_nat{v:Nat}(hv:v<9223372036854775808):Rds WP (Zi v) (v:Int):=fun b p w hp hd=>by
 rw[WP,ruB_B om hp hd,if_neg osi,if_neg oz]
theorem Uk{n:Int}(h0:0≤n)(hn:n<9223372036854775808):Rds WP (Zi (u64 n)) n:=by
 have e:u64 n=n.toNat:=by unfold u64;omega
 have h:=rds_nat (v:=n.toNat) om;rw[e];rwa [Int.toNat_of_nonneg h0]at h
theorem Xx{l:List UInt8}(hl:l.length<9223372036854775808):Rds X3 (Zo l) l:=fun b p w hp hd=>by
 unfold Zo at hd ⊢;rw[qf]at hd;obtain⟨l1,d1⟩:=dadv hp hd;obtain⟨l2,d2⟩:=dadv l1 d1;have hr:rbB b p b.length=(l,p+(Zi l.length).length+l.length,0):=by
   unfold rbB;rw[if_neg om,ruB_B om hp hd];simp only[ne_eq,not_true_eq_false,↓reduceIte];rw[if_neg om,if_neg om,d1,List.take_left]
 rw[X3,hr,if_neg osi,qe,qg]
theorem MP(n:Int):((Yb n).toNat:Int)=n%256:=by
 unfold Yb;simp;omega
theorem UU{n:Int}(h0:0≤n)(hn:n<256):Rds Qe [Yb n] n:=by
 have h:=rds_byte (Yb n)
 rwa [MP,Int.emod_eq_of_lt h0 hn]at h
theorem eightB_be{n:Int}(h0: -9223372036854775808≤n)(hn:n<9223372036854775808):IntKind.i64.wrap (be8 (Mf n):Int)=n:=by
 have h:(be8 (Mf n):Int)=n%18446744073709551616:=by
   simp only[Mf,be8,List.map_cons,List.map_nil,List.foldl_cons,List.foldl_nil,Nat.zero_mul,Nat.zero_add,Int.natCast_add,Int.natCast_mul,MP];omega
 rw[h];by_cases hs:0≤n
 ·rw[Int.emod_eq_of_lt hs om,w64 om om]
 ·have e:n%18446744073709551616=n+18446744073709551616:=om;rw[e,IntKind.wrap_i64];omega
theorem rds_delta{n:Int}(h0: -9223372036854775808≤n)(hn:n<9223372036854775808):Rds rdDelta (Mf n) n:=fun b p v hp hd=>by
 obtain⟨l1,d1⟩:=dadv hp hd;have hl:(Mf n).length=8:=rfl;rw[rdDelta,if_neg om,hd,←hl,List.take_left,eightB_be h0 hn]
theorem rdMany_B{α : Type}{rd : List UInt8 → Nat → Option (α × Nat)}{enc : α → List UInt8}: ∀ (l : List α) (b : List UInt8) (p : Nat) (v : List UInt8) (acc : List α), (∀ x ∈ l, Rds rd (enc x) x) → p ≤ b.length → b.drop p = l.flatMap enc ++ v →
   NJ rd b l.length p acc=some (acc++l,p+(l.flatMap enc).length)
 | [],b,p,v,acc,_,_,_=>by simp[NJ]
 | x::l,b,p,v,acc,h,hp,hd=>by
   rw[List.flatMap_cons,qf]at hd;have h1:=h x osi b p _ hp hd;obtain⟨l1,d1⟩:=dadv hp hd;simp only[qi,NJ,h1,Option.bind_some];rw[rdMany_B l b _ v _ (fun y hy=>h y (by simp[hy])) l1 d1,List.flatMap_cons,qe];simp[qg]
theorem flat_len{α:Type}{enc:α→List UInt8}(henc:∀x,1≤(enc x).length):∀l:List α,l.length≤(l.flatMap enc).length
 | []=>osi
 | x::l=>by
   have h1:=henc x;have h2:=flat_len henc l;rw[List.flatMap_cons,qe,qi];omega
theorem NI{α:Type}{rd:List UInt8→Nat→Option (α×Nat)}{enc:α→List UInt8}{l:List α}(h:∀x∈l,Rds rd (enc x) x)(henc:∀x,1≤(enc x).length)(hl:l.length<9223372036854775808):Rds (NK rd) (Zi l.length++l.flatMap enc) l:=fun b p v hp hd=>by
 rw[qf]at hd;have h1:=rds_nat hl b p _ hp hd;obtain⟨l1,d1⟩:=dadv hp hd;obtain⟨l2,d2⟩:=dadv l1 d1;have hf:=flat_len henc l;have hc:rdCount b p=some (l.length,p+(Zi l.length).length):=by
   rw[rdCount,h1,Option.bind_some,if_neg (by simp only[qd];omega),qd]
 rw[NK,hc,Option.bind_some,rdMany_B l b _ v [] h l1 d1,List.nil_append,qe,qg]
theorem rds_cond{x:Ri}(hk:0≤x.kind∧x.kind<256)(hf:0≤x.fam∧x.fam<256)(hq:x.qual.length<9223372036854775808)(hv:x.value.length<9223372036854775808):Rds NL (V3 x) x:=fun b p v hp hd=>by
 simp only[V3,List.cons_append,qf]at hd;have h1:=UU hk.1 hk.2 b p _ hp hd;obtain⟨l1,d1⟩:=dadv (e:=[Yb x.kind]) hp hd;have h2:=UU hf.1 hf.2 b _ _ l1 d1;obtain⟨l2,d2⟩:=dadv (e:=[Yb x.fam]) l1 d1;have h3:=Xx hq b _ _ l2 d2;obtain⟨l3,d3⟩:=dadv l2 d2;have h4:=Xx hv b _ _ l3 d3;simp only[NL,h1,h2,h3,h4,Option.bind_some];refine congrArg some (Prod.ext rfl ?_);simp only[V3,qi,List.length_nil,qe];omega
theorem rds_op{x:OpE}(hk:0≤x.kind∧x.kind<256)(hf:0≤x.fam∧x.fam<256)(hq:x.qual.length<9223372036854775808)(ht:0≤x.ts∧x.ts<9223372036854775808)(hv:x.value.length<9223372036854775808)(hdl: -9223372036854775808≤x.delta∧x.delta<9223372036854775808):Rds rdOp (opB x) x:=fun b p v hp hd=>by
 simp only[opB,List.cons_append,qf]at hd;have h1:=UU hk.1 hk.2 b p _ hp hd;obtain⟨l1,d1⟩:=dadv (e:=[Yb x.kind]) hp hd;have h2:=UU hf.1 hf.2 b _ _ l1 d1;obtain⟨l2,d2⟩:=dadv (e:=[Yb x.fam]) l1 d1;have h3:=Xx hq b _ _ l2 d2;obtain⟨l3,d3⟩:=dadv l2 d2;have h4:=Uk ht.1 ht.2 b _ _ l3 d3;obtain⟨l4,d4⟩:=dadv l3 d3;have h5:=Xx hv b _ _ l4 d4;obtain⟨l5,d5⟩:=dadv l4 d4;have h6:=rds_delta hdl.1 hdl.2 b _ _ l5 d5;simp only[rdOp,h1,h2,h3,h4,h5,h6,Option.bind_some];refine congrArg some (Prod.ext rfl ?_);simp only[opB,qi,List.length_nil,qe];omega
structure QryE.nums(q:QryE):Prop where
 fams:∀f∈q.fams,0≤f∧f<9223372036854775808
 time:0≤q.time∧q.time<9223372036854775808
 n:0≤q.n∧q.n<9223372036854775808
 rows:0≤q.rows∧q.rows<9223372036854775808
theorem rds_qry{q:QryE}(hn:q.nums)(h1:q.frm.length≤1048576)(h2:q.to.length≤1048576)(h3:q.fams.length≤1048576)(h4:q.pre.length≤1048576)(h5:q.whr.length≤1048576)(h6:q.token.length≤1048576):Rds rdQry (qryB q) q:=fun b p v hp hd=>by
 simp only[qryB,qf]at hd;have r1:=Xx (by omega:q.frm.length<9223372036854775808) b p _ hp hd;obtain⟨l1,d1⟩:=dadv hp hd;have r2:=Xx (by omega:q.to.length<9223372036854775808) b _ _ l1 d1;obtain⟨l2,d2⟩:=dadv l1 d1;rw[←qf]at d2;have r3:=NI (rd:=WP) (enc:=fun f=>Zi (u64 f)) (fun f hf=>Uk (hn.fams f hf).1 (hn.fams f hf).2) (fun f=>uintB_pos _) (by omega:q.fams.length<9223372036854775808) b _ _ l2 d2;obtain⟨l3,d3⟩:=dadv l2 d2;have r4:=Xx (by omega:q.pre.length<9223372036854775808) b _ _ l3 d3;obtain⟨l4,d4⟩:=dadv l3 d3;have r5:=Uk hn.time.1 hn.time.2 b _ _ l4 d4;obtain⟨l5,d5⟩:=dadv l4 d4;have r6:=Uk hn.n.1 hn.n.2 b _ _ l5 d5;obtain⟨l6,d6⟩:=dadv l5 d5;have r7:=Uk hn.rows.1 hn.rows.2 b _ _ l6 d6;obtain⟨l7,d7⟩:=dadv l6 d6;have r8:=rds_byte (if q.rev then 1 else 0) b _ _ l7 d7;obtain⟨l8,d8⟩:=dadv (e:=[if q.rev then 1 else 0]) l7 d7;have r9:=Xx (by omega:q.whr.length<9223372036854775808) b _ _ l8 d8;obtain⟨l9,d9⟩:=dadv l8 d8;have r10:=Xx (by omega:q.token.length<9223372036854775808) b _ _ l9 d9;simp only[rdQry,r1,r2,r3,r4,r5,r6,r7,r8,r9,r10,Option.bind_some];refine congrArg some (Prod.ext ?_ ?_)
 ·show QryE.mk _ _ _ _ _ _ _ _ _ _=q;have e:(((if q.rev then(1:UInt8)else 0).toNat:Int)==1)=q.rev:=by cases q.rev<;>rfl
  rw[e]
 ·simp only[qryB,flagB,qe,qi,List.length_nil];omega
def fbad(nf:Nat)(l:List Int)(i:Nat):Bool:=decide (l.getD i 0<0)||decide ((nf:Int)≤l.getD i 0)||(decide (0<i)&&decide (l.getD i 0≤l.getD (i-1) 0))
def Qn(nf:Nat)(l:List Int):Bool:=(List.range l.length).all fun i=> !fbad nf l i
def Ja(q:QryE):Bool:=decide (256<q.frm.length)||decide (256<q.to.length)||(decide (0<q.to.length)&&decide (Lib.compareBytes q.to q.frm≤0))
def Uo(q:QryE):Bool:=decide (q.pre.length≤256)&&decide (0≤q.time)&&decide (q.time≤1099511627776)&&decide (1≤q.n)&&decide (q.n≤16)&&decide (1≤q.rows)&&decide (q.rows≤1000)
def Yy(nf:Nat)(q:QryE):Bool:= !Ja q&&Qn nf q.fams&&Uo q
def YX(q:QryE)(row:List UInt8):Bool:=decide (0≤Lib.compareBytes row q.frm)&&(decide (q.to.length=0)||decide (Lib.compareBytes row q.to<0))
structure QryE.fine(q:QryE):Prop where
 frm:q.frm.length≤1048576
 to:q.to.length≤1048576
 fams:q.fams.length≤1048576
 pre:q.pre.length≤1048576
 whr:q.whr.length≤1048576
 token:q.token.length≤1048576
def Xc(fs:List Fml)(t:List UInt8):List UInt8×Int×Int:=
 if Zy fs≠0 then([],Zy fs,0)else match Wu fs t with | .ok x=>(x.2,0,0) | .error p=>([],131,p)
structure PgE where
 rows:List RowE
 token:List UInt8
 done:Bool
 deriving DecidableEq,Inhabited
def pgAV(p:PgE):AV:= .agg [.sl 2 (p.rows.map Zf),bys p.token,.bool p.done]
def pgZ:PgE:=⟨[],[],false⟩
def byS(sign:List UInt8)(c:Int):Bool:=
 if sign=[61]then c==0 else if sign=[33,61]then c !=0 else if sign=[60]then decide (c<0)else if sign=[60,61]then decide (c≤0)else if sign=[62]then decide (0<c)else decide (0≤c)
def Tst.holds:Tst→CelE→Bool
 | .or a b,c=>a.holds c||b.holds c
 | .and a b,c=>a.holds c&&b.holds c
 | .not a,c=> !a.holds c
 | .fam n sign,c=>(c.fam==n)==(sign==[61])
 | .cmp qual sign s,c=>if sign=[94]then s.isPrefixOf (if qual then c.qual else c.value)else byS sign (Lib.compareBytes (if qual then c.qual else c.value) s)
 | .ts sign n,c=>byS sign (cmpI c.ts n)
def UA(t:Option Tst)(c:CelE):Bool:=match t with | none=>true | some t=>t.holds c
def Vu(l:List Int)(f:Int):Bool:=l.isEmpty||l.contains f
def Y8(q:QryE)(t:Option Tst)(c:CelE):Bool:=q.pre.isPrefixOf c.qual&&UA t c&&Vu q.fams c.fam
def ZI(q:QryE)(t:Option Tst)(l:List CelE):List CelE:=l.filter (Y8 q t)
def Yw(q:QryE)(row:List UInt8)(last:Option (List UInt8))(start:List UInt8)(has:Bool):Bool:=
 if row.length=0∨256<row.length then false
 else match last with
   | some l=>if q.rev then decide (Lib.compareBytes row l<0)else decide (0<Lib.compareBytes row l)
   | none=>if has then(if q.rev then decide (Lib.compareBytes row start<0)else decide (0≤Lib.compareBytes row start))else true
def WE(q:QryE)(row:List UInt8):Bool:=
 (!q.rev&&decide (0<q.to.length)&&decide (0≤Lib.compareBytes row q.to))||(q.rev&&decide (Lib.compareBytes row q.frm<0))
def YY(nf:Nat)(l:List CelE):Bool:=l.any fun c=>bout c.fam 0 ((nf:Int)-1)
def runG(nf:Nat)(q:QryE)(t:Option Tst)(tk:List UInt8→List UInt8)(start:List UInt8)(has:Bool)(err:Int):Nat→Option (List UInt8)→List RowE→List RowE→PgE×Nat×Int
 | m,_,acc,[]=>if err≠0 then(pgZ,m+1,err)else(⟨acc,[],true⟩,m+1,0)
 | m,last,acc,x::l=>
   if Yw q x.row last start has=false then(pgZ,m+1,133)
   else if YY nf x.cells then(pgZ,m+1,133)
   else if WE q x.row then(⟨acc,[],true⟩,m+1,0)
   else if ZI q t x.cells=[]then runG nf q t tk start has err (m+1) (some x.row) acc l
   else if ((acc.length+1:Nat):Int)=q.rows then(⟨acc++[⟨x.row,ZI q t x.cells⟩],tk x.row,false⟩,m+1,0)
   else runG nf q t tk start has err (m+1) (some x.row) (acc++[⟨x.row,ZI q t x.cells⟩]) l
def XR(nf:Nat)(q:QryE)(x:RowE)(last:Option (List UInt8))(start:List UInt8)(has:Bool):Bool:=
 !(decide (x.row.length=0∨256<x.row.length))&&
 (match last with | some l=>(if q.rev then decide (Lib.compareBytes x.row l<0)else decide (0<Lib.compareBytes x.row l)) | none=>true)&&
 (!has||(if q.rev then decide (Lib.compareBytes x.row start<0)else decide (0≤Lib.compareBytes x.row start)))&& !YY nf x.cells
def MF(nf:Nat)(q:QryE)(t:Option Tst)(tk:List UInt8→List UInt8)(start:List UInt8)(has:Bool)(err:Int):Nat→Option (List UInt8)→List RowE→List RowE→PgE×Nat×Int
 | m,_,acc,[]=>if err≠0 then(pgZ,m+1,err)else(⟨acc,[],true⟩,m+1,0)
 | m,last,acc,x::l=>
   if XR nf q x last start has=false then(pgZ,m+1,133)
   else if YX q x.row=false then(⟨acc,[],true⟩,m+1,0)
   else if ZI q t x.cells=[]then MF nf q t tk start has err (m+1) (some x.row) acc l
   else if ((acc.length+1:Nat):Int)=q.rows then(⟨acc++[⟨x.row,ZI q t x.cells⟩],tk x.row,false⟩,m+1,0)
   else MF nf q t tk start has err (m+1) (some x.row) (acc++[⟨x.row,ZI q t x.cells⟩]) l
end Go.Rt
namespace Go.Sx
open Go
open Classical in
noncomputable def Ctx.frzK(c:Ctx)(H:Heap)(k:Nat)(w:World):Ctx where
 ρ:=c.ρ
 ro:=fun b=>match c.ro b with
   | some a=>some a
   | none => if ∃ ver e els, H k = some (.arr ver e els) ∧ Zm c k (.arr ver e els) = some b then
       (match w.heap[b]? with | some (.cells a _ _)=>some a | _=>none)else none
theorem Ctx.frzK_le(c:Ctx)(H:Heap)(k:Nat)(w:World):c.le (c.frzK H k w) where
 ρ:=fun h=>h
 ro:=fun{b a} h=>by simp only[Ctx.frzK,h]
theorem Ctx.frzK_ro{c:Ctx}{H:Heap}{n:Nat}{w:World}(hs:Sim c H n w){k ver e:Nat}{els:List AV}(hk:H k=some (.arr ver e els)){b:Nat}(hbo:Zm c k (.arr ver e els)=some b){arr:Array Value}{ty:TypeId}{fr:Nat×Nat}(hb:w.heap[b]? =some (.cells arr ty fr)):(c.frzK H k w).ro b=some arr:=by
 have h:=hs.sep k _ b hk hbo;simp only[Ctx.frzK,h];rw[if_pos ⟨ver,e,els,hk,hbo⟩,hb]
theorem Step.frzK{c:Ctx}{H:Heap}{n:Nat}{w:World}(hs:Sim c H n w)(k:Nat):Step c H w (c.frzK H k w) (H.put k none) n w:=by
 have hne:∀{k' o},(H.put k none) k'=some o→k'≠k∧H k'=some o:=fun{k' o} h=>by
   by_cases e:k'=k
   ·subst e;rw[Rm]at h;cases h
   ·rw[Rk _ _ e]at h;exact⟨e,h⟩
 have hbo:∀k' o,Zm (c.frzK H k w) k' o=Zm c k' o:=fun _ _=>rfl
 exact{
   le:=c.frzK_le H k w
   sim:={
     ro:=fun b a hb=>by
       simp only[Ctx.frzK]at hb;split at hb
       ·exact kct
       ·exact kan
     own:=fun k' o h=>(hs.own k' o (hne h).2).mono (c.frzK_le H k w) (fun _ _=>rfl)
     sep:=fun k' o b h hb=>by
       rw[hbo]at hb;have h4:=hs.sep k' o b (hne h).2 hb;simp only[Ctx.frzK,h4];rw[if_neg];rintro⟨ver,e,els,hk',hb'⟩;exact(hne h).1 (hs.inj k' k o _ b (hne h).2 hk' hb hb')
     inj:=fun k1 k2 o1 o2 b h1 h2 b1 b2=>hs.inj k1 k2 o1 o2 b (hne h1).2 (hne h2).2 b1 b2
     fresh:=fun k' hk=>⟨by
       by_cases e:k'=k
       ·subst e;exact Rm _ _ _
       ·rw[Rk _ _ e];exact(hs.fresh k' hk).1,(hs.fresh k' hk).2⟩
     vers:=fun k' o v h hv=>hs.vers k' o v (hne h).2 hv}
   fr:= .refl _ _
   new:=fun b ⟨k',o,h,hb⟩=> .inl ⟨k',o,(hne h).2,hb⟩}
def Frzn(k ver e:Nat)(els:List AV)(c:Ctx):Prop:=∃c0 H n w,Sim c0 H n w∧H k=some (.arr ver e els)∧c=c0.frzK H k w
theorem Frzn.osl{k ver e off len:Nat}{els:List AV}{c:Ctx}(hf:Frzn k ver e els c)(hlen:off+len≤els.length){m:Bool}{cs:List Value}(hr:Rel c (.osl k ver off len) m cs):Rel c (.sl e ((els.drop off).take len)) m cs:=by
 obtain⟨c0,H,n,w,hs,hk,rfl⟩:=hf;have hys:((els.drop off).take len).length=len:=oz;have ho:=hs.own k _ hk;simp only[ZR]at ho;obtain⟨l,hl,hm⟩:=ho;simp only[Rel]at hr ⊢;obtain⟨l',hl',hmm⟩:=hr;rw[show(c0.frzK H k w).ρ k ver=c0.ρ k ver from rfl,hl]at hl';cases hl';cases l with
 | nil=>
   obtain⟨_,h2,ev⟩:=hmm;subst h2;exact⟨none,0,by simpa using ev,osi,osi,.inl osi⟩
 | blk b cap e'=>
   obtain⟨he,hz,hc,arr,ty,ds,hb,hsz,hrf,ha⟩:=hm;subst he;obtain⟨cp,o',h1,h2,h3,ev⟩:=hmm;have hbo:Zm c0 k (.arr ver e' els)=some b:=by simp[Zm,AObj.ver,hl]
   refine⟨_,cp,by rw[hys];exact ev,by rw[hys];exact h1,fun x hx=>hz x (List.mem_of_mem_drop (List.mem_of_mem_take hx)),?_⟩;by_cases h0:len=0
   ·left;exact List.length_eq_zero_iff.1 om
   ·right;have eo:o'=off*e':=by rcases h3 with h3 | h3<;>omega
    subst eo;have e1:els=els.take off++((els.drop off).take len++(els.drop off).drop len):=by rw[List.take_append_drop,List.take_append_drop]
    rw[e1]at hrf;obtain⟨d1,r1,ed,hr1,hr2⟩:=RelF.append.1 hrf;obtain⟨d2,d3,ed2,hr3,hr4⟩:=RelF.append.1 hr2;subst ed;subst ed2;have hl1:d1.length=off*e':=by
      exact kat
    obtain⟨_,ha2⟩:=At.append.1 ha;obtain⟨ha3,_⟩:=At.append.1 ha2;exact⟨b,off*e',arr,d2,rfl,Ctx.frzK_ro hs hk hbo hb,RelF.mono (c0.frzK_le H k w) _ _ hr3,by rw[←hl1];simpa using ha3⟩
def FzV(k ver e:Nat)(els:List AV)(a b:AV):Prop:=a.sz=b.sz∧∀c m cs,Frzn k ver e els c→Rel c a m cs→Rel c b m cs
def FzL(k ver e:Nat)(els:List AV):List AV→List AV→Prop
 | [],[]=>True
 | a::l,b::m=>FzV k ver e els a b∧FzL k ver e els l m
 | _,_=>False
section
variable {k ver e:Nat}{els:List AV}
theorem FzV.refl(a:AV):FzV k ver e els a a:=⟨rfl,fun _ _ _ _ h=>h⟩
theorem FzV.osl{off len:Nat}(hlen:off+len≤els.length):FzV k ver e els (.osl k ver off len) (.sl e ((els.drop off).take len)):=⟨rfl,fun _ _ _ hf hr=>hf.osl hlen hr⟩
theorem FzL.relF{c:Ctx}(hf:Frzn k ver e els c):∀{l m:List AV} {cs:List Value},FzL k ver e els l m→RelF c l cs→RelF c m cs
 | [],[],_,_,h=>h
 | a::l,b::m,cs,hw,h=>by
   simp only[RelF]at h ⊢;obtain⟨c1,c2,e,h1,h2⟩:=h;exact⟨c1,c2,e,hw.1.2 _ _ _ hf h1,FzL.relF hf hw.2 h2⟩
 | [],_::_,_,hw,_=>hw.elim
 | _::_,[],_,hw,_=>hw.elim
theorem FzL.szs:∀{l m:List AV},FzL k ver e els l m→AV.szs l=AV.szs m
 | [],[],_=>rfl
 | a::l,b::m,hw=>by simp only[AV.szs];rw[hw.1.1,FzL.szs hw.2]
 | [],_::_,hw=>hw.elim
 | _::_,[],hw=>hw.elim
theorem FzL.len:∀{l m:List AV},FzL k ver e els l m→l.length=m.length
 | [],[],_=>rfl
 | a::l,b::m,hw=>by simp[FzL.len hw.2]
 | [],_::_,hw=>hw.elim
 | _::_,[],hw=>hw.elim
theorem FzL.szAll{e':Nat}:∀{l m:List AV},FzL k ver e els l m→(∀x∈l,x.sz=e')→∀x∈m,x.sz=e'
 | [],[],_,_,x,hx=>by simp at hx
 | a::l,b::m,hw,h,x,hx=>by
   rcases List.mem_cons.1 hx with rfl | hx
   ·rw[←hw.1.1];exact h a osi
   ·exact FzL.szAll hw.2 (fun y hy=>h y (by simp[hy])) x hx
 | [],_::_,hw,_,_,_=>hw.elim
 | _::_,[],hw,_,_,_=>hw.elim
theorem FzV.agg{l m:List AV}(h:FzL k ver e els l m):FzV k ver e els (.agg l) (.agg m):=⟨by simp only[AV.sz];exact h.szs,fun c mm cs hf hr=>by
 cases mm with
 | true=>simp only[Rel]at hr ⊢;exact h.relF hf hr
 | false=>simp only[Rel]at hr ⊢;obtain⟨arr,e,hr⟩:=hr;exact⟨arr,e,h.relF hf hr⟩⟩
end
theorem Ua{P : Program}{N : Nat}{code : Code}{T : Nat → AV}{H : Heap}{n : Nat}{Q : QK}(t : Tmp)(k : Nat){ver e : Nat}{els : List AV}{v : AV}(hk : H k = some (.arr ver e els))(ha : FzV k ver e els (T t) v)
   (h:awp P N code (tput T (some t) v) (H.put k none) n Q):awp P N code T H n Q:=
 Vf (fun c w tmps hs hr=>⟨c.frzK H k w,Step.frzK hs k,fun u=>by
   have hr':=ZJ.mono (c.frzK_le H k w) hr;simp only[tput];split
   ·rename_i hu;cases hu;exact ha.2 _ _ _ ⟨c,H,n,w,hs,hk,rfl⟩ (hr' _)
   ·exact hr' u⟩) h
theorem Ub{P : Program}{N : Nat}{code : Code}{T : Nat → AV}{H : Heap}{n : Nat}{Q : QK}(k j : Nat){ver e vj ej : Nat}{els lj lj' : List AV}(hk : H k = some (.arr ver e els))(hj : H j = some (.arr vj ej lj))(hne : j ≠ k)(ha : FzL k ver e els lj lj')
   (h:awp P N code T ((H.put k none).put j (some (.arr vj ej lj'))) n Q):awp P N code T H n Q:=
 Vf (fun c w tmps hs hr=>by
   have hst:=Step.frzK hs k;have hst2:=Step.retell (els':=lj') hst.sim (k:=j) (by rw[Rk _ _ hne];exact hj) (fun ds hd=>ha.relF ⟨c,H,n,w,hs,hk,rfl⟩ hd) ha.len.symm ha.szAll;exact⟨_,hst.trans hst2,ZJ.mono (hst.trans hst2).le hr⟩) h
theorem FzL.relT{k ver e:Nat}{els:List AV}{c:Ctx}(hf:Frzn k ver e els c):∀{l m:List AV} {cs:List Value},FzL k ver e els l m→RelT c l cs→RelT c m cs
 | [],[],_,_,h=>h
 | a::l,b::m,cs,hw,h=>by
   simp only[RelT]at h ⊢;obtain⟨c1,c2,e,h1,h2⟩:=h;exact⟨c1,c2,e,hw.1.2 _ _ _ hf h1,FzL.relT hf hw.2 h2⟩
 | [],_::_,_,hw,_=>hw.elim
 | _::_,[],_,hw,_=>hw.elim
theorem Zn.frzK{P : Program}{f : FuncId}{args args' : List AV}{H : Heap}{n : Nat}{K : ARes → Heap → Nat → Prop}(k : Nat){ver e : Nat}{els : List AV}(hk : H k = some (.arr ver e els))(ha : FzL k ver e els args args')
   (h:Zn P f args' (H.put k none) n K):Zn P f args H n K:=fun c w vs hs hr=>
 (h (c.frzK H k w) w vs (Step.frzK hs k).sim (ha.relT ⟨c,H,n,w,hs,hk,rfl⟩ (RelT.mono (c.frzK_le H k w) _ _ hr))).mono fun _ _ ⟨res,c',H',n',V,hst,hm⟩=>⟨res,c',H',n',V,(Step.frzK hs k).trans hst,hm⟩
theorem Ret.frzK{P:Program}{f:FuncId}{args args':List AV}{H:Heap}{n:Nat}{r:AV}{H':Heap}{n':Nat}(k:Nat){ver e:Nat}{els:List AV}(hk:H k=some (.arr ver e els))(ha:FzL k ver e els args args')(h:Ret P f args' (H.put k none) n r H' n'):Ret P f args H n r H' n':=Zn.frzK k hk ha h
theorem Zn.below{P:Program}{f:FuncId}{args:List AV}{H:Heap}{n:Nat}{K:ARes→Heap→Nat→Prop}{k:Nat}{o:AObj}(hk:H k=some o)(h:k<n→Zn P f args H n K):Zn P f args H n K:=fun c w vs hs hr=>
 h (by
   rcases Nat.lt_or_ge k n with h1 | h1
   ·exact h1
   ·rw[(hs.fresh k h1).1]at hk;cases hk) c w vs hs hr
theorem Ret.below{P:Program}{f:FuncId}{args:List AV}{H:Heap}{n:Nat}{r:AV}{H':Heap}{n':Nat}{k:Nat}{o:AObj}(hk:H k=some o)(h:k<n→Ret P f args H n r H' n'):Ret P f args H n r H' n':=Zn.below hk h
mutual
def AV.fr(n:Nat):AV→Prop
 | .int _ _=>True
 | .bool _=>True
 | .str _=>True
 | .nilp=>True
 | .nilsl=>True
 | .nilf=>True
 | .nilm=>True
 | .nili=>True
 | .loc k _ _ _ _=>n≤k
 | .osl k _ _ _=>n≤k
 | .agg fs=>RG n fs
 | .tup fs=>RG n fs
 | .iface _ v=>v.fr n
 | _=>False
def RG(n:Nat):List AV→Prop
 | []=>True
 | f::fs=>f.fr n∧RG n fs
end
mutual
theorem Rel.frC{c c':Ctx}{n:Nat}(h:∀k v l,n≤k→c.ρ k v=some l→c'.ρ k v=some l):∀(av:AV) (m:Bool) (cs:List Value),av.fr n→Rel c av m cs→Rel c' av m cs
 | .int _ _,_,_,_,hr=>by simpa [Rel]using hr
 | .bool _,_,_,_,hr=>by simpa [Rel]using hr
 | .str _,_,_,_,hr=>by simpa [Rel]using hr
 | .nilp,_,_,_,hr=>by simpa [Rel]using hr
 | .nilsl,_,_,_,hr=>by simpa [Rel]using hr
 | .nilf,_,_,_,hr=>by simpa [Rel]using hr
 | .nilm,_,_,_,hr=>by simpa [Rel]using hr
 | .nili,_,_,_,hr=>by simpa [Rel]using hr
 | .loc _ _ _ _ _,_,_,hk,hr=>by
   simp only[Rel]at hr ⊢;simp only[AV.fr]at hk;obtain⟨b,cap,esz,hl,e⟩:=hr;exact⟨b,cap,esz,h _ _ _ hk hl,e⟩
 | .osl _ _ _ _,_,_,hk,hr=>by
   simp only[Rel]at hr ⊢;simp only[AV.fr]at hk;obtain⟨l,hl,hm⟩:=hr;exact⟨l,h _ _ _ hk hl,hm⟩
 | .agg fs,true,_,hk,hr=>by simp only[Rel]at hr ⊢;simp only[AV.fr]at hk;exact RelF.frC h fs _ hk hr
 | .agg fs,false,_,hk,hr=>by
   simp only[Rel]at hr ⊢;simp only[AV.fr]at hk;obtain⟨arr,e,hf⟩:=hr;exact⟨arr,e,RelF.frC h fs _ hk hf⟩
 | .tup vs,false,_,hk,hr=>by
   simp only[Rel]at hr ⊢;simp only[AV.fr]at hk;obtain⟨arr,e,hf⟩:=hr;exact⟨arr,e,RelT.frC h vs _ hk hf⟩
 | .tup _,true,_,_,hr=>by simp[Rel]at hr
 | .iface _ v,_,_,hk,hr=>by
   simp only[Rel]at hr ⊢;simp only[AV.fr]at hk;obtain⟨x,e,hx⟩:=hr;exact⟨x,e,Rel.frC h v _ _ hk hx⟩
 | .rp _,_,_,hk,_=>by simp[AV.fr]at hk
 | .sl _ _,_,_,hk,_=>by simp[AV.fr]at hk
 | .fn _ _ _,_,_,hk,_=>by simp[AV.fr]at hk
 | .omap _,_,_,hk,_=>by simp[AV.fr]at hk
 | .opt _ _,_,_,hk,_=>by simp[AV.fr]at hk
 | .raw _,_,_,hk,_=>by simp[AV.fr]at hk
 | .junk,_,_,hk,_=>by simp[AV.fr]at hk
theorem RelF.frC{c c':Ctx}{n:Nat}(h:∀k v l,n≤k→c.ρ k v=some l→c'.ρ k v=some l):∀(fs:List AV) (cs:List Value),RG n fs→RelF c fs cs→RelF c' fs cs
 | [],_,_,hr=>by simpa [RelF]using hr
 | f::fs,_,hk,hr=>by
   simp only[RelF]at hr ⊢;simp only[RG]at hk;obtain⟨c1,c2,e,h1,h2⟩:=hr;exact⟨c1,c2,e,Rel.frC h f _ _ hk.1 h1,RelF.frC h fs _ hk.2 h2⟩
theorem RelT.frC{c c':Ctx}{n:Nat}(h:∀k v l,n≤k→c.ρ k v=some l→c'.ρ k v=some l):∀(fs:List AV) (cs:List Value),RG n fs→RelT c fs cs→RelT c' fs cs
 | [],_,_,hr=>by simpa [RelT]using hr
 | f::fs,_,hk,hr=>by
   simp only[RelT]at hr ⊢;simp only[RG]at hk;obtain⟨v,r,e,h1,h2⟩:=hr;exact⟨v,r,e,Rel.frC h f _ _ hk.1 h1,RelT.frC h fs _ hk.2 h2⟩
end
def Jq(H H0:Heap):Prop:=∀k o,H0 k=some o→H k=some o∧∃e els,o= .glob e els∧Rv 0 els
noncomputable def Ctx.lendC(c:Ctx)(H H0:Heap)(w:World):Ctx where
 ρ:=fun k v=>match H0 k with | some _=>c.ρ k v | none=>none
 ro:=(c.frz H 0 w).ro
theorem Ctx.lendC_low(c:Ctx)(H H0:Heap)(w:World):(c.frz H 0 w).low (c.lendC H H0 w) 0:=⟨fun hk=>om,fun hb=>hb⟩
theorem FrzL.kls0{H:Heap}{a b:List AV}(h:FrzL H 0 a b){c:Ctx}{cs:List Value}{n:Nat}{w:World}(hs:Sim c H n w)(hr:RelT c a cs):Rv 0 b:=by
 have:=FrzL.relT hs h hr;exact VU (c:=c.frz H 0 w) (n:=0) (fun k v _=>by show(if k<0 then c.ρ k v else none)=none;rw[if_neg om]) _ _ this
theorem Sim.lendC{c:Ctx}{H H0:Heap}{n:Nat}{w:World}(hs:Sim c H n w)(hG:Jq H H0):Sim (c.lendC H H0 w) H0 n w where
 ro:=fun b a hb=>by
   simp only[Ctx.lendC,Ctx.frz]at hb;split at hb
   ·exact kct
   ·exact kan
 own:=fun k o hk=>by
   obtain⟨hH,e,els,rfl,hkl⟩:=hG k o hk;have ho:=hs.own k _ hH;simp only[ZR]at ho ⊢;obtain⟨h1,h2,arr,ds,h3,h4,h5⟩:=ho;refine⟨by simp only[Ctx.lendC,hk];exact h1,h2,arr,ds,(c.frz_low H 0 w).ro h3,?_,h5⟩;exact RelF.low (c:=c) (c':=c.lendC H H0 w) (n:=0) ⟨fun hk=>om,fun hb=>(c.frz_low H 0 w).ro hb⟩ els ds hkl h4
 sep:=fun k o b hk hb=>by
   exact kaR
 inj:=fun k k' o o' b hk hk' hb _=>by
   exact kaR
 fresh:=fun k hk=>by
   have h0:H0 k=none:=by
     cases h:H0 k with
     | none=>rfl
     | some o=>have:=(hG k o h).1;rw[(hs.fresh k hk).1]at this;simp at this
   exact⟨h0,fun v=>by simp only[Ctx.lendC,h0]⟩
 vers:=fun k o v hk hv=>by
   obtain⟨hH,_⟩:=hG k o hk;simp only[Ctx.lendC,hk];exact hs.vers k o v hH hv
structure NewRes(n:Nat)(H0:Heap)(res:ARes)(H':Heap)(n':Nat):Prop where
 nn:n≤n'
 low:∀k,k<n→H' k=H0 k
 new:∀k o,n≤k→H' k=some o→∃v e els,o= .arr v e els∧RG n els
 val:match res with | .val r=>r.fr n | .pan p=>p.fr n
def Heap.over(n:Nat)(H H':Heap):Heap:=fun k=>if k<n then H k else H' k
theorem Zn.lend{P : Program}{f : FuncId}{args args' : List AV}{H H0 : Heap}{n : Nat}{K : ARes → Heap → Nat → Prop}(hG : Jq H H0)(hL : FrzL H 0 args args')(h : Zn P f args' H0 n K)
   (V:∀res H' n',K res H' n'→NewRes n H0 res H' n'):Zn P f args H n (fun res H2 n2=>∃H',K res H' n2∧H2=Heap.over n H H'):=
 fun c w vs hs hr=>(h (c.lendC H H0 w) w vs (hs.lendC hG) (RelT.low (c.lendC_low H H0 w) _ _ (hL.kls0 hs hr) (FrzL.relT hs hL hr))).mono fun e w' ⟨res,c',H',n',hk,hst,hm⟩=>by
   have hN:=V _ _ _ hk;have hno:∀b,¬Rh (c.lendC H H0 w) H0 b:=fun b ⟨k,o,hk,hb⟩=>by
     exact kaR
   have hkeep:∀b,b<w.heap.size→w'.heap[b]? =w.heap[b]? :=fun b hb=>hst.fr.keep b hb (hno b);have hnew:∀b k o,n≤k→H' k=some o→Zm c' k o=some b→w.heap.size≤b:=fun b k o _ ho hb=>by
     rcases hst.new b ⟨k,o,ho,hb⟩with h | h
     ·exact absurd h (hno b)
     ·exact h
   let c2:Ctx:={ρ:=fun k v=>if k<n then c.ρ k v else c'.ρ k v,ro:=c.ro}
   have hle:c.le c2:=⟨fun{k v l} hk=>by
     show(if k<n then c.ρ k v else c'.ρ k v)=some l;rcases Nat.lt_or_ge k n with h | h
     ·rw[if_pos h];exact hk
     ·rw[(hs.fresh k h).2 v]at hk;simp at hk,fun hb=>hb⟩
   have hlo:∀k v,k<n→c2.ρ k v=c.ρ k v:=fun k v h=>if_pos h;have hhi:∀k v,n≤k→c2.ρ k v=c'.ρ k v:=fun k v h=>if_neg om;have hblo:∀k o,k<n→Zm c2 k o=Zm c k o:=fun k o h=>by unfold Zm;rw[hlo _ _ h]
   have hbhi:∀k o,n≤k→Zm c2 k o=Zm c' k o:=fun k o h=>by unfold Zm;rw[hhi _ _ h]
   have hfr:∀k v l,n≤k→c'.ρ k v=some l→c2.ρ k v=some l:=fun k v l hk h=>by rw[hhi k v hk];exact h
   have hlt:∀b a,c.ro b=some a→b<w.heap.size:=fun b a hb=>by
     obtain⟨ty,fr,hw⟩:=hs.ro b a hb;exact kcr
   have hH2:∀k o,Heap.over n H H' k=some o→(k<n∧H k=some o)∨(n≤k∧H' k=some o):=fun k o hk=>by
     unfold Heap.over at hk;split at hk
     ·rename_i h;exact .inl ⟨h,hk⟩
     ·rename_i h;exact .inr ⟨om,hk⟩
   refine⟨res,c2,Heap.over n H H',n',⟨H',hk,rfl⟩,?_,?_⟩
   ·exact {
      le:=hle
      sim:={
        ro:=fun b a hb=>by
          obtain⟨ty,fr,hw⟩:=hs.ro b a hb;exact⟨ty,fr,by rw[hkeep b (hlt b a hb)];exact hw⟩
        own:=fun k o hk=>by
          rcases hH2 k o hk with⟨h1,h2⟩ | ⟨h1,h2⟩
          ·exact(hs.own k o h2).mono hle fun b hb=>hkeep b ((hs.own k o h2).lt hb)
          ·obtain⟨v,e,els,rfl,hf⟩:=hN.new k o h1 h2;have ho:=hst.sim.own k _ h2;simp only[ZR]at ho ⊢;obtain⟨l,hl,hm⟩:=ho;refine⟨l,hfr _ _ _ h1 hl,?_⟩;cases l with
           | nil=>exact hm
           | blk b cap e'=>
             obtain⟨q1,q2,q3,arr,ty,ds,q4,q5,q6,q7⟩:=hm;exact⟨q1,q2,q3,arr,ty,ds,q4,q5,RelF.frC hfr _ _ hf q6,q7⟩
        sep:=fun k o b hk hb=>by
          rcases hH2 k o hk with⟨h1,h2⟩ | ⟨h1,h2⟩
          ·rw[hblo k o h1]at hb;exact hs.sep k o b h2 hb
          ·rw[hbhi k o h1]at hb;have:=hnew b k o h1 h2 hb;cases hr:c.ro b with
           | none=>rfl
           | some a=>have:=hlt b a hr;omega
        inj:=fun k1 k2 o1 o2 b g1 g2 b1 b2=>by
          rcases hH2 k1 o1 g1 with⟨h1,h2⟩ | ⟨h1,h2⟩<;>rcases hH2 k2 o2 g2 with⟨h3,h4⟩ | ⟨h3,h4⟩
          ·rw[hblo _ _ h1]at b1;rw[hblo _ _ h3]at b2;exact hs.inj k1 k2 o1 o2 b h2 h4 b1 b2
          ·rw[hblo _ _ h1]at b1;rw[hbhi _ _ h3]at b2;have:=hnew b k2 o2 h3 h4 b2;have:=(hs.own k1 o1 h2).lt b1;omega
          ·rw[hbhi _ _ h1]at b1;rw[hblo _ _ h3]at b2;have:=hnew b k1 o1 h1 h2 b1;have:=(hs.own k2 o2 h4).lt b2;omega
          ·rw[hbhi _ _ h1]at b1;rw[hbhi _ _ h3]at b2;exact hst.sim.inj k1 k2 o1 o2 b h2 h4 b1 b2
        fresh:=fun k hk=>by
          have hnk:n≤k:=Nat.le_trans hN.nn hk;exact⟨by show(if k<n then H k else H' k)=none;rw[if_neg om];exact(hst.sim.fresh k hk).1,fun v=>by rw[hhi k v hnk];exact(hst.sim.fresh k hk).2 v⟩
        vers:=fun k o v hk hv=>by
          rcases hH2 k o hk with⟨h1,h2⟩ | ⟨h1,h2⟩
          ·rw[hlo k v h1];exact hs.vers k o v h2 hv
          ·rw[hhi k v h1];exact hst.sim.vers k o v h2 hv}
      fr:={os:=hst.fr.os,tape:=hst.fr.tape,output:=hst.fr.output,size:=hst.fr.size,keep:=fun b hb _=>hkeep b hb}
      new:=fun b ⟨k,o,hk,hb⟩=>by
        rcases hH2 k o hk with⟨h1,h2⟩ | ⟨h1,h2⟩
        ·rw[hblo k o h1]at hb;exact .inl ⟨k,o,h2,hb⟩
        ·rw[hbhi k o h1]at hb;exact .inr (hnew b k o h1 h2 hb)}
   ·have hv:=hN.val;cases e with
    | returned v=>
      cases res with
      | val r=>exact Rel.frC hfr _ _ _ hv hm
      | pan p=>exact hm.elim
    | panicked ch=>
      cases res with
      | val r=>exact hm.elim
      | pan p=>
        obtain⟨v,e1,e2⟩:=hm;exact⟨v,e1,Rel.frC hfr _ _ _ hv e2⟩
    | outgrown=>cases res<;>exact hm.elim
theorem R9{P:Program}{f:FuncId}{args args':List AV}{H H0:Heap}{n:Nat}{r:AV}(hG:Jq H H0)(hL:FrzL H 0 args args')(hr:r.fr n)(h:Ret P f args' H0 n r H0 n):Ret P f args H n r H n:=fun c w vs hs hrel=>by
 have h0:∀k,n≤k→H0 k=none:=fun k hk=>by
   cases he:H0 k with
   | none=>rfl
   | some o=>have:=(hG k o he).1;rw[(hs.fresh k hk).1]at this;simp at this
 have heq:Heap.over n H H0=H:=funext fun k=>by
   unfold Heap.over;split
   ·rfl
   ·rw[h0 k om,(hs.fresh k om).1]
 refine(Zn.lend hG hL h (fun res H' n' ⟨e1,e2,e3⟩=> ?_) c w vs hs hrel).mono fun e w' ⟨res,c',H',n',⟨H1,⟨e1,e2,e3⟩,e4⟩,hst,hm⟩=>⟨res,c',H',n',⟨e1,by rw[e4,e2,heq],e3⟩,hst,hm⟩;subst e1;subst e2;subst e3;exact⟨Nat.le_refl _,fun _ _=>rfl,fun k o hk ho=>by rw[h0 k hk]at ho;simp at ho,hr⟩
theorem Jq.none(H:Heap):Jq H fun _=>none:=fun k o h=>by simp at h
def AV.nk:AV→Prop
 | .int _ _=>True
 | .bool _=>True
 | .str _=>True
 | .nilp=>True
 | .nilsl=>True
 | .nilf=>True
 | .nilm=>True
 | .nili=>True
 | _=>False
theorem AV.nk.kl{a:AV}(h:a.nk)(n:Nat):a.kl n:=by cases a<;>first | trivial | exact h.elim
theorem AV.nk.fr{a:AV}(h:a.nk)(n:Nat):a.fr n:=by cases a<;>first | trivial | exact h.elim
mutual
inductive Own(H:Heap):AV→AV→List Nat→Prop
 | nk {a:AV}:a.nk→Own H a a []
 | nilsl {e:Nat}:Own H .nilsl (.sl e []) []
 | osl {k ver len e:Nat} {els ys:List AV} {ks:List Nat}:H k=some (.arr ver e els)→len≤els.length→OwnL H (els.take len) ys ks→Own H (.osl k ver 0 len) (.sl e ys) (k::ks)
 | agg {fs gs:List AV} {ks:List Nat}:OwnL H fs gs ks→Own H (.agg fs) (.agg gs) ks
 | tup {fs gs:List AV} {ks:List Nat}:OwnL H fs gs ks→Own H (.tup fs) (.tup gs) ks
inductive OwnL(H:Heap):List AV→List AV→List Nat→Prop
 | nil:OwnL H [] [] []
 | cons {a b:AV} {l m:List AV} {ks js:List Nat}:Own H a b ks→OwnL H l m js→OwnL H (a::l) (b::m) (ks++js)
end
mutual
theorem Own.frz{H:Heap}{n:Nat}:∀{a b:AV} {ks:List Nat},Own H a b ks→(∀k∈ks,n≤k)→Frz H n a b
 | _,_,_,.nk h,_=> .kl (h.kl n)
 | _,_,_,.nilsl,_=> .nilsl
 | _,_,_,.osl h1 h2 h3,hk=> .osl h1 (hk _ osi) om (by rw[List.drop_zero];exact OwnL.frz h3 fun k h=>hk k (by simp[h]))
 | _,_,_,.agg h,hk=> .agg (OwnL.frz h hk)
 | _,_,_,.tup h,hk=> .tup (OwnL.frz h hk)
theorem OwnL.frz{H:Heap}{n:Nat}:∀{a b:List AV} {ks:List Nat},OwnL H a b ks→(∀k∈ks,n≤k)→FrzL H n a b
 | _,_,_,.nil,_=> .nil
 | _,_,_,.cons h1 h2,hk=> .cons (Own.frz h1 fun k h=>hk k (by simp[h])) (OwnL.frz h2 fun k h=>hk k (by simp[h]))
end
mutual
theorem Own.frame{H H':Heap}:∀{a b:AV} {ks:List Nat},Own H a b ks→(∀k∈ks,H' k=H k)→Own H' a b ks
 | _,_,_,.nk h,_=> .nk h
 | _,_,_,.nilsl,_=> .nilsl
 | _,_,_,.osl h1 h2 h3,hk=> .osl ((hk _ osi).trans h1) h2 (OwnL.frame h3 fun k h=>hk k (by simp[h]))
 | _,_,_,.agg h,hk=> .agg (OwnL.frame h hk)
 | _,_,_,.tup h,hk=> .tup (OwnL.frame h hk)
theorem OwnL.frame{H H':Heap}:∀{a b:List AV} {ks:List Nat},OwnL H a b ks→(∀k∈ks,H' k=H k)→OwnL H' a b ks
 | _,_,_,.nil,_=> .nil
 | _,_,_,.cons h1 h2,hk=> .cons (Own.frame h1 fun k h=>hk k (by simp[h])) (OwnL.frame h2 fun k h=>hk k (by simp[h]))
end
mutual
theorem Own.fr{H:Heap}{n:Nat}:∀{a b:AV} {ks:List Nat},Own H a b ks→(∀k∈ks,n≤k)→a.fr n
 | _,_,_,.nk h,_=>h.fr n
 | _,_,_,.nilsl,_=>trivial
 | _,_,_,.osl _ _ _,hk=>hk _ osi
 | _,_,_,.agg h,hk=>OwnL.fr h hk
 | _,_,_,.tup h,hk=>OwnL.fr h hk
theorem OwnL.fr{H:Heap}{n:Nat}:∀{a b:List AV} {ks:List Nat},OwnL H a b ks→(∀k∈ks,n≤k)→RG n a
 | _,_,_,.nil,_=>trivial
 | _,_,_,.cons h1 h2,hk=>⟨Own.fr h1 fun k h=>hk k (by simp[h]),OwnL.fr h2 fun k h=>hk k (by simp[h])⟩
end
mutual
theorem Own.sz{H:Heap}:∀{a b:AV} {ks:List Nat},Own H a b ks→a.sz=b.sz
 | _,_,_,.nk _=>rfl
 | _,_,_,.nilsl=>rfl
 | _,_,_,.osl _ _ _=>rfl
 | _,_,_,.agg h=>by simp only[AV.sz];exact OwnL.szs h
 | _,_,_,.tup _=>rfl
theorem OwnL.szs{H:Heap}:∀{a b:List AV} {ks:List Nat},OwnL H a b ks→AV.szs a=AV.szs b
 | _,_,_,.nil=>rfl
 | _,_,_,.cons h1 h2=>by simp only[AV.szs];rw[Own.sz h1,OwnL.szs h2]
end
theorem OwnL.szAll{H:Heap}{e:Nat}:∀{a b:List AV} {ks:List Nat},OwnL H a b ks→(∀x∈a,x.sz=e)→∀x∈b,x.sz=e
 | _,_,_,.nil,_,x,hx=>by simp at hx
 | _,_,_,.cons h1 h2,h,x,hx=>by
   rcases List.mem_cons.1 hx with rfl | hx
   ·rw[←h1.sz];exact h _ osi
   ·exact OwnL.szAll h2 (fun y hy=>h y (by simp[hy])) x hx
theorem OwnL.len{H:Heap}:∀{a b:List AV} {ks:List Nat},OwnL H a b ks→a.length=b.length
 | _,_,_,.nil=>rfl
 | _,_,_,.cons _ h=>by simp[h.len]
theorem OwnL.append{H:Heap}:∀{a b:List AV} {ks:List Nat},OwnL H a b ks→∀{c d:List AV} {js:List Nat},OwnL H c d js→OwnL H (a++c) (b++d) (ks++js)
 | _,_,_,.nil,_,_,_,h=>h
 | _,_,_,.cons h1 h2,_,_,_,h=>by rw[qf];exact .cons h1 (OwnL.append h2 h)
theorem OwnL.one{H:Heap}{a b:AV}{ks:List Nat}(h:Own H a b ks):OwnL H [a] [b] ks:=by
 have:=OwnL.cons h (.nil (H:=H));simpa using this
theorem OwnL.snoc{H:Heap}{l m:List AV}{a b:AV}{ks js:List Nat}(h:OwnL H l m ks)(h':Own H a b js):OwnL H (l++[a]) (m++[b]) (ks++js):=h.append (.one h')
theorem RD{H:Heap}:∀(l:List AV),(∀x∈l,x.nk)→OwnL H l l []
 | [],_=> .nil
 | a::l,h=> .cons (.nk (h a osi)) (RD l fun x hx=>h x (by simp[hx]))
theorem OwnL.nth{H:Heap}:∀{a b:List AV} {ks:List Nat},OwnL H a b ks→∀{i:Nat},i<a.length→∃ks1 ks2 ks3,ks=ks1++(ks2++ks3)∧OwnL H (a.take i) (b.take i) ks1∧Own H (nth a i) (nth b i) ks2∧OwnL H (a.drop (i+1)) (b.drop (i+1)) ks3
 | _,_,_,.nil,i,hi=>by simp at hi
 | _,_,_,.cons (ks:=ks) (js:=js) h1 h2,0,_=>⟨[],ks,js,rfl,.nil,h1,h2⟩
 | _,_,_,.cons (a:=a) (b:=b) (l:=l) (m:=m) (ks:=ks) (js:=js) h1 h2,i+1,hi=>by
   obtain⟨k1,k2,k3,e,q1,q2,q3⟩:=OwnL.nth h2 (i:=i) (by simpa using hi);exact⟨ks++k1,k2,k3,by rw[e,qf],.cons h1 q1,q2,q3⟩
structure Mine(H:Heap)(n:Nat)(b:AV)(a:AV)(ks:List Nat)(H':Heap)(n':Nat):Prop where
 own:Own H' a b ks
 nd:ks.Nodup
 lo:∀k∈ks,n≤k∧k<n'
 low:∀k,k<n→H' k=H k
 nn:n≤n'
def OAns(H:Heap)(n:Nat)(b:AV)(res:ARes)(H':Heap)(n':Nat):Prop:=∃a ks,res= .val a∧Mine H n b a ks H' n'
theorem OAns.fin{P:Program}{f:FuncId}{args:List AV}{H:Heap}{n:Nat}{b:AV}(h:Zn P f args H n (OAns H n b)):Ret P f args H n b H n:=
 Ret.fin (h.mono fun res H1 n1 ⟨a,ks,hr,hm⟩=>⟨a,hr,hm.low,hm.own.frz fun k hk=>(hm.lo k hk).1⟩)
def Heap.dropS(S:Nat→Prop)[DecidablePred S](H:Heap):Heap:=fun k=>if S k then none else H k
open Classical in
noncomputable def Ctx.frzS(c:Ctx)(H:Heap)(S:Nat→Prop)(w:World):Ctx where
 ρ:=c.ρ
 ro:=fun b=>match c.ro b with
   | some a=>some a
   | none => if ∃ k ver e els, S k ∧ H k = some (.arr ver e els) ∧ Zm c k (.arr ver e els) = some b then
       (match w.heap[b]? with | some (.cells a _ _)=>some a | _=>none)else none
theorem Ctx.frzS_le(c:Ctx)(H:Heap)(S:Nat→Prop)(w:World):c.le (c.frzS H S w) where
 ρ:=fun h=>h
 ro:=fun{b a} h=>by simp only[Ctx.frzS,h]
section
variable {S:Nat→Prop}[DecidablePred S]
theorem Step.frzS{c:Ctx}{H:Heap}{n:Nat}{w:World}(hs:Sim c H n w):Step c H w (c.frzS H S w) (H.dropS S) n w:=by
 have hne:∀{k' o},(H.dropS S) k'=some o→¬S k'∧H k'=some o:=fun{k' o} h=>by
   unfold Heap.dropS at h;split at h
   ·cases h
   ·rename_i e;exact⟨e,h⟩
 exact{
   le:=c.frzS_le H S w
   sim:={
     ro:=fun b a hb=>by
       simp only[Ctx.frzS]at hb;split at hb
       ·exact kct
       ·exact kan
     own:=fun k' o h=>(hs.own k' o (hne h).2).mono (c.frzS_le H S w) (fun _ _=>rfl)
     sep:=fun k' o b h hb=>by
       have hb:Zm c k' o=some b:=hb;have h4:=hs.sep k' o b (hne h).2 hb;simp only[Ctx.frzS,h4];rw[if_neg];rintro⟨k,ver,e,els,hS,hk',hb'⟩;have:=hs.inj k' k o _ b (hne h).2 hk' hb hb';subst this;exact(hne h).1 hS
     inj:=fun k1 k2 o1 o2 b h1 h2 b1 b2=>hs.inj k1 k2 o1 o2 b (hne h1).2 (hne h2).2 b1 b2
     fresh:=fun k' hk=>⟨by
       unfold Heap.dropS;split
       ·rfl
       ·exact(hs.fresh k' hk).1,(hs.fresh k' hk).2⟩
     vers:=fun k' o v h hv=>hs.vers k' o v (hne h).2 hv}
   fr:= .refl _ _
   new:=fun b ⟨k',o,h,hb⟩=> .inl ⟨k',o,(hne h).2,hb⟩}
end
theorem Ctx.frzS_ro{S:Nat→Prop}{c:Ctx}{H:Heap}{n:Nat}{w:World}(hs:Sim c H n w){k ver e:Nat}{els:List AV}(hS:S k)(hk:H k=some (.arr ver e els)){b:Nat}(hbo:Zm c k (.arr ver e els)=some b){arr:Array Value}{ty:TypeId}{fr:Nat×Nat}(hb:w.heap[b]? =some (.cells arr ty fr)):(c.frzS H S w).ro b=some arr:=by
 have h:=hs.sep k _ b hk hbo;simp only[Ctx.frzS,h];rw[if_pos ⟨k,ver,e,els,hS,hk,hbo⟩,hb]
mutual
inductive FzO(H:Heap)(S:Nat→Prop):AV→AV→Prop
 | refl (a:AV):FzO H S a a
 | nilsl {e:Nat}:FzO H S .nilsl (.sl e [])
 | osl {k ver len e:Nat} {els ys:List AV}:H k=some (.arr ver e els)→S k→len≤els.length→FzOL H S (els.take len) ys→FzO H S (.osl k ver 0 len) (.sl e ys)
 | agg {fs gs:List AV}:FzOL H S fs gs→FzO H S (.agg fs) (.agg gs)
 | tup {fs gs:List AV}:FzOL H S fs gs→FzO H S (.tup fs) (.tup gs)
inductive FzOL(H:Heap)(S:Nat→Prop):List AV→List AV→Prop
 | nil:FzOL H S [] []
 | cons {a b:AV} {l m:List AV}:FzO H S a b→FzOL H S l m→FzOL H S (a::l) (b::m)
end
mutual
theorem FzO.own{H:Heap}{S:Nat→Prop}:∀{a b:AV} {ks:List Nat},Own H a b ks→(∀k∈ks,S k)→FzO H S a b
 | _,_,_,.nk _,_=> .refl _
 | _,_,_,.nilsl,_=> .nilsl
 | _,_,_,.osl h1 h2 h3,hk=> .osl h1 (hk _ osi) h2 (FzOL.own h3 fun k h=>hk k (by simp[h]))
 | _,_,_,.agg h,hk=> .agg (FzOL.own h hk)
 | _,_,_,.tup h,hk=> .tup (FzOL.own h hk)
theorem FzOL.own{H:Heap}{S:Nat→Prop}:∀{a b:List AV} {ks:List Nat},OwnL H a b ks→(∀k∈ks,S k)→FzOL H S a b
 | _,_,_,.nil,_=> .nil
 | _,_,_,.cons h1 h2,hk=> .cons (FzO.own h1 fun k h=>hk k (by simp[h])) (FzOL.own h2 fun k h=>hk k (by simp[h]))
end
section
variable {S:Nat→Prop}
mutual
theorem FzO.sz{H:Heap}{S:Nat→Prop}:∀{a b:AV},FzO H S a b→a.sz=b.sz
 | _,_,.refl _=>rfl
 | _,_,.nilsl=>rfl
 | _,_,.osl _ _ _ _=>rfl
 | _,_,.agg h=>by simp only[AV.sz];exact FzOL.szs h
 | _,_,.tup _=>rfl
theorem FzOL.szs{H:Heap}{S:Nat→Prop}:∀{a b:List AV},FzOL H S a b→AV.szs a=AV.szs b
 | _,_,.nil=>rfl
 | _,_,.cons h1 h2=>by simp only[AV.szs];rw[FzO.sz h1,FzOL.szs h2]
end
theorem FzOL.len{H:Heap}{S:Nat→Prop}:∀{a b:List AV},FzOL H S a b→a.length=b.length
 | _,_,.nil=>rfl
 | _,_,.cons _ h=>by simp[h.len]
theorem FzOL.szAll{H:Heap}{S:Nat→Prop}{e:Nat}:∀{a b:List AV},FzOL H S a b→(∀x∈a,x.sz=e)→∀x∈b,x.sz=e
 | _,_,.nil,_,x,hx=>by simp at hx
 | _,_,.cons h1 h2,h,x,hx=>by
   rcases List.mem_cons.1 hx with rfl | hx
   ·rw[←h1.sz];exact h _ osi
   ·exact FzOL.szAll h2 (fun y hy=>h y (by simp[hy])) x hx
mutual
theorem FzO.rel{c:Ctx}{H:Heap}{n:Nat}{w:World}(hs:Sim c H n w):∀{a b:AV},FzO H S a b→∀{m:Bool} {cs:List Value},Rel c a m cs→Rel (c.frzS H S w) b m cs
 | _,_,.refl _,_,_,hr=>Rel.mono (c.frzS_le H S w) _ _ _ hr
 | _,_,.nilsl,m,cs,hr=>by
   simp only[Rel]at hr ⊢;exact⟨none,0,by simpa using hr,osi,osi,.inl trivial⟩
 | _,_,.osl (k:=k) (ver:=ver) (len:=len) (e:=e) (els:=els) (ys:=ys) hk hS hl hL,m,cs,hr=>by
   have hys:=hL.len;rw[qk,Nat.min_eq_left hl]at hys;have ho:=hs.own k _ hk;simp only[ZR]at ho;obtain⟨l,hloc,hm⟩:=ho;simp only[Rel]at hr ⊢;obtain⟨l',hl',hmm⟩:=hr;rw[hloc]at hl';cases hl';cases l with
   | nil=>
     obtain⟨_,h2,ev⟩:=hmm;subst h2;have:ys=[]:=List.length_eq_zero_iff.1 hys.symm;subst this;exact⟨none,0,by simpa using ev,osi,osi,.inl rfl⟩
   | blk b cap e'=>
     obtain⟨he,hz,hc,arr,ty,ds,hb,hsz,hrf,ha⟩:=hm;subst he;obtain⟨cp,o',h1,h2,h3,ev⟩:=hmm;have hbo:Zm c k (.arr ver e' els)=some b:=by simp[Zm,AObj.ver,hloc]
     have hro:=Ctx.frzS_ro (S:=S) hs hS hk hbo hb;have e1:els=els.take len++els.drop len:=(List.take_append_drop len els).symm;rw[e1]at hrf;obtain⟨d1,d2,ed,hr1,_⟩:=RelF.append.1 hrf;subst ed;have hrel:=FzOL.relF hs hL hr1;refine⟨_,cp,by rw[←hys];exact ev,om,?_,?_⟩
     ·exact hL.szAll fun x hx=>hz x (List.mem_of_mem_take hx)
     ·by_cases h0:len=0
      ·left;exact List.length_eq_zero_iff.1 om
      ·right;have eo:o'=0:=by rcases h3 with h3 | h3<;>omega
       subst eo;exact⟨b,0,arr,d1,rfl,hro,hrel,(At.append.1 ha).1⟩
 | _,_,.agg h,true,_,hr=>by simp only[Rel]at hr ⊢;exact FzOL.relF hs h hr
 | _,_,.agg h,false,_,hr=>by
   simp only[Rel]at hr ⊢;obtain⟨arr,e,hf⟩:=hr;exact⟨arr,e,FzOL.relF hs h hf⟩
 | _,_,.tup h,true,cs,hr=>by simp[Rel]at hr
 | _,_,.tup h,false,cs,hr=>by
   simp only[Rel]at hr ⊢;obtain⟨arr,e,hf⟩:=hr;exact⟨arr,e,FzOL.relT hs h hf⟩
theorem FzOL.relF{c:Ctx}{H:Heap}{n:Nat}{w:World}(hs:Sim c H n w):∀{a b:List AV},FzOL H S a b→∀{cs:List Value},RelF c a cs→RelF (c.frzS H S w) b cs
 | _,_,.nil,_,hr=>hr
 | _,_,.cons h1 h2,_,hr=>by
   simp only[RelF]at hr ⊢;obtain⟨c1,c2,e,g1,g2⟩:=hr;exact⟨c1,c2,e,FzO.rel hs h1 g1,FzOL.relF hs h2 g2⟩
theorem FzOL.relT{c:Ctx}{H:Heap}{n:Nat}{w:World}(hs:Sim c H n w):∀{a b:List AV},FzOL H S a b→∀{cs:List Value},RelT c a cs→RelT (c.frzS H S w) b cs
 | _,_,.nil,_,hr=>hr
 | _,_,.cons h1 h2,_,hr=>by
   simp only[RelT]at hr ⊢;obtain⟨v,r,e,g1,g2⟩:=hr;exact⟨v,r,e,FzO.rel hs h1 g1,FzOL.relT hs h2 g2⟩
end
end
end Go.Sx