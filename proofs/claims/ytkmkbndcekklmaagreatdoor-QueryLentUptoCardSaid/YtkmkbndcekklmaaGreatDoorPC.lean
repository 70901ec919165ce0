/- Own layer 'Sx', part H: a region walked in the order of its text, reckoned; the entry of a function. Of every program; no condition. -/
import Derived.Test.YtkmkbndcekklmaaGreatDoorPB
import Derived.Orders
set_option linter.unusedSimpArgs false
set_option linter.unusedVariables false
namespace Go.Sx
open Go
inductive Lm where
 | q
 | w
 | c (fo:Operand) (args:Array Operand)
def X4:Op→Lm
 | .store _ _ _ | .box _ _ | .alloc _ | .makeMap _ _ | .mapUpdate _ _ _ _ | .buildSlice _ _ _ | .makeSlice _ _ _=> .w
 | .call ⟨.builtin .append,_,_⟩=> .w
 | .call ⟨.value fo,args,_⟩=> .c fo args
 | .convert s d _=>if s=d then .w else .q
 | _=> .q
def wAppL(P:Program)(H:Heap)(n:Nat)(T:Nat→AV):List Operand→List TypeId→Option (Prop×AV×Heap×Nat)
 | [x,y],[t,t']=>if t=t' then Na P H n t (evO T x) (evO T y)else none
 | _,_=>none
def wBS(P:Program)(z:TypeId→AV)(H:Heap)(n:Nat)(T:Nat→AV)(t:TypeId)(len:Nat)(ps:Array (Nat×Operand)):AV→Option (Prop×AV×Heap×Nat)
 | .bool true=>wBSl P H n t len (ps.toList.map (·.1)) (ps.toList.map fun p=>evO T p.2)
 | _=>(opQ P z H true T (.buildSlice t len ps)).map fun r=>(r.1,r.2,H,n)
def wCv(P:Program)(z:TypeId→AV)(H:Heap)(n:Nat)(T:Nat→AV)(s d:TypeId)(x:Operand):AV→Option (Prop×AV×Heap×Nat)
 | .osl k ver off len=>wConv P H n s d (.osl k ver off len)
 | _=>(opQ P z H true T (.convert s d x)).map fun r=>(r.1,r.2,H,n)
def opW(P:Program)(z:TypeId→AV)(H:Heap)(n:Nat)(T:Nat→AV):Op→Option (Prop×AV×Heap×Nat)
 | .store t x v=>wStore P H n t (evO T x) (evO T v)
 | .box _ x=>wBox H n (evO T x)
 | .alloc t=>wAlloc P z H n t
 | .call ⟨.builtin .append,args,ts⟩=>wAppL P H n T args.toList ts.toList
 | .makeMap t r=>UL P H n t (r.map (evO T))
 | .mapUpdate t m k v=>wMapUp P H n t (evO T k) (evO T v) (evO T m)
 | .buildSlice t len ps=>wBS P z H n T t len ps (z 4294967295)
 | .convert s d x=>wCv P z H n T s d x (evO T x)
 | .makeSlice t x y=>wMkSl P z H n t (evO T x) (evO T y)
 | _=>none
theorem ot_wBS{P : Program}{z : TypeId → AV}{H : Heap}{n : Nat}{T : Nat → AV}{dst : Option Tmp}{t : TypeId}{len : Nat}{ps : Array (Nat × Operand)}{ty : TypeId}{pos : String}{after : Array Edge}{guard : Option (Nat × Bool)}{zz : AV}
   {C:Prop} {r:AV} {H':Heap} {n':Nat} {K:ARes→Heap→Nat→Prop}
   (h:wBS P z H n T t len ps zz=some (C,r,H',n')) (hC:C) (V:K (.val r) H' n'):OpT P ⟨dst,.buildSlice t len ps,ty,pos,after,guard⟩ (evO T) H n K:=by
 unfold wBS at h;split at h
 ·exact ot_buildSlice h hC V
 ·cases hq:opQ P z H true T (.buildSlice t len ps)with
  | none=>rw[hq]at h;simp at h
  | some p=>
    rw[hq]at h;simp only[Option.map_some,Option.some.injEq,Prod.mk.injEq]at h;obtain⟨rfl,rfl,rfl,rfl⟩:=h;exact RH (WT hq rfl hC) V
theorem ot_wCv{P : Program}{z : TypeId → AV}{H : Heap}{n : Nat}{T : Nat → AV}{dst : Option Tmp}{s d : TypeId}{x : Operand}{ty : TypeId}{pos : String}{after : Array Edge}{guard : Option (Nat × Bool)}
   {C:Prop} {r:AV} {H':Heap} {n':Nat} {K:ARes→Heap→Nat→Prop}
   (h:wCv P z H n T s d x (evO T x)=some (C,r,H',n')) (hC:C) (V:K (.val r) H' n'):OpT P ⟨dst,.convert s d x,ty,pos,after,guard⟩ (evO T) H n K:=by
 unfold wCv at h;split at h
 ·rename_i he;exact ot_conv (ε:=evO T) (by rw[he];exact h) hC V
 ·cases hq:opQ P z H true T (.convert s d x)with
  | none=>rw[hq]at h;simp at h
  | some p=>
    rw[hq]at h;simp only[Option.map_some,Option.some.injEq,Prod.mk.injEq]at h;obtain⟨rfl,rfl,rfl,rfl⟩:=h;exact RH (WT hq rfl hC) V
theorem UV{P : Program}{z : TypeId → AV}{H : Heap}{n : Nat}{T : Nat → AV}{dst : Option Tmp}{op : Op}{ty : TypeId}{pos : String}{after : Array Edge}{guard : Option (Nat × Bool)}
   {C:Prop} {r:AV} {H':Heap} {n':Nat} {K:ARes→Heap→Nat→Prop}
   (h:opW P z H n T op=some (C,r,H',n')) (hC:C) (V:K (.val r) H' n'):OpT P ⟨dst,op,ty,pos,after,guard⟩ (evO T) H n K:=by
 unfold opW at h;split at h
 ·exact ot_store h hC V
 ·exact ot_box h hC V
 ·exact ot_alloc h hC V
 ·rename_i args ts;unfold wAppL at h;split at h
  ·rename_i x y t t' e1 e2;split at h
   ·rename_i e;subst e;obtain⟨az⟩:=args;obtain⟨tts⟩:=ts;simp only at e1 e2;subst e1;subst e2;exact ot_append h hC V
   ·simp at h
  ·simp at h
 ·exact ot_makeMap h hC V
 ·exact ot_mapUp h hC V
 ·exact ot_wBS h hC V
 ·exact ot_wCv h hC V
 ·exact ot_makeSlice h hC V
 ·simp at h
def dOK(N:Nat):Option Tmp→Prop
 | none=>True
 | some d=>d<N
structure PR(P:Program)(g:Bool)(fv:AV)(args:List AV)(H:Heap)(n:Nat)(k:AV→Heap→Nat→Prop)(kp:AV→Heap→Nat→Prop):Prop where
 yes:g=true→Vr P fv args H n (fun r H' n'=>k (.opt true r) H' n') kp
 no:g=false→∃r,k (.opt false r) H n
@[congr] theorem callG_congr{P:Program}{g g':Bool}{fv fv':AV}{args args':List AV}{H H':Heap}{n n':Nat}{k kp:AV→Heap→Nat→Prop}(h0:g=g')(h1:fv=fv')(h2:args=args')(h3:H=H')(h4:n=n'):
 PR P g fv args H n k kp=PR P g' fv' args' H' n' k kp:=by rw[h0,h1,h2,h3,h4]
def erun(P:Program)(z:TypeId→AV)(N:Nat)(ops:Array Oper):List Oper→(Nat→AV)→Heap→Nat→(QK)→Prop
 | [],T,H,n,Q=>Q .normal T H n
 | ⟨dst,op,_,_,_,none⟩::os,T,H,n,Q=>dOK N dst∧match X4 op with
   | .q=>cont (opQ P z H true T op) fun r=>erun P z N ops os (tput T dst r) H n Q
   | .w=>Y7 (opW P z H n T op) fun r H' n'=>erun P z N ops os (tput T dst r) H' n' Q
   | .c fo args=>Vr P (evO T fo) (args.toList.map (evO T)) H n (fun r H' n'=>erun P z N ops os (tput T dst r) H' n' Q) (fun p H' n'=>Q (.pan p) T H' n')
 | ⟨dst,op,_,_,_,some (j,b)⟩::os,T,H,n,Q=>dOK N dst∧Z7 ((gtmp ops j).bind fun t=>gval (T t) b) fun g=>match X4 op with
   | .q=>Xb g (opQ P z H g T op) fun r=>erun P z N ops os (tput T dst r) H n Q
   | .w=>(g=true→Y7 (opW P z H n T op) fun r H' n'=>erun P z N ops os (tput T dst r) H' n' Q)∧(g=false→erun P z N ops os (tput T dst (.opt false .junk)) H n Q)
   | .c fo args=>PR P g (strip g (evO T fo)) (args.toList.map fun x=>strip g (evO T x)) H n (fun r H' n'=>erun P z N ops os (tput T dst r) H' n' Q) (fun p H' n'=>Q (.pan p) T H' n')
def lrun(P:Program)(N:Nat)(ops:Array Oper)(l:List Oper)(T:Nat→AV)(H:Heap)(n:Nat)(Q:QK):Prop:=
 ∀(c:Ctx) (w:World) (a:Act),Sim c H n w→ZJ c T a.tmps→a.tmps.size=N→∀ds,a.defers=ds→wpList P ops (Jt N ds c H w Q) l a w
section
variable {P:Program}{z:TypeId→AV}{N:Nat}{ops:Array Oper}{T:Nat→AV}{H:Heap}{n:Nat}{Q:QK}
theorem Xj{Q Q':Exit→Act→World→Prop}(hq:∀e a w,Q e a w→Q' e a w):∀(l:List Oper) (a:Act) (w:World),wpList P ops Q l a w→wpList P ops Q' l a w
 | [],_,_,h=>hq _ _ _ h
 | o::l,a,w,h=>by
   have ih:=Xj hq l;unfold wpList at h ⊢;split
   ·rename_i hw;rw[if_pos hw]at h;refine h.imp (fun h=> ?_) (fun⟨h1,a',w',h2⟩=>⟨h1,a',w',hq _ _ _ h2⟩);unfold Oper.wp at h ⊢;generalize (execOp a.eval o).run P w=r at*;cases r with
    | ok nx w'=>
      cases nx<;>simp only[Oper.upon]at h ⊢<;>first
        | exact ih _ _ h
        | exact Calls.mono h (fun e w'' he=>by cases e<;>first | exact ih _ _ he | exact hq _ _ _ he | (obtain⟨a',w',h2⟩:=he;exact⟨a',w',hq _ _ _ h2⟩))
        | exact Rows.mono h (fun _ _ he=>ih _ _ he)
        | exact h
    | halt x w'=>cases x<;>simp only[Oper.upon]at h ⊢<;>first | exact hq _ _ _ h | exact h
   ·exact kcD
theorem Wt(a:Act)(dst:Option Tmp)(v:Value):(a.put dst v).tmps.size=a.tmps.size:=by cases dst<;>simp[Act.put]
theorem Y4(a:Act)(dst:Option Tmp)(v:Value):(a.put dst v).defers=a.defers:=by cases dst<;>rfl
theorem YB{o : Oper}{os : List Oper}{ε : Operand → AV}{k : AV → Heap → Nat → Prop}{kp : AV → Heap → Nat → Prop}(hd : dOK N o.dst)
   (h:OpT P o ε H n (fun res H' n'=>match res with | .val r=>k r H' n' | .pan p=>kp p H' n'))
   {ds:List Deferred} {c:Ctx} {w:World} {a:Act} (hs:Sim c H n w) (hr:ZJ c T a.tmps) (hN:a.tmps.size=N) (hdf:a.defers=ds) (hw:Region.wanted o (yielded ops a.tmps)=true)
   (hε:∀x∈o.op.operands,Rel c (ε x) false [a.eval x]) (f:AV→AV) (hf:∀c' r v,Rel c' r false [v]→Rel c' (f r) false [v])
   (hk:∀r H' n',k r H' n'→lrun P N ops os (tput T o.dst (f r)) H' n' Q) (hp:∀p H' n',kp p H' n'→Q (.pan p) T H' n'):
   wpList P ops (Jt N ds c H w Q) (o::os) a w:=by
 unfold wpList;rw[if_pos hw];left;have hd':∀d,o.dst=some d→d<a.tmps.size:=fun d hd2=>by rw[hd2]at hd;rw[hN];exact hd
 refine h c w a hs hε _ _ (fun r v c' H' n' w' V hst hrel=> ?_) (fun p v c' H' n' w' V hst hrel=> ?_)
 ·refine Xj (fun e a w hp=>hp.step hst) os _ _ (hk r H' n' V c' w' _ hst.sim (Wn (ZJ.mono hst.le hr) (hf _ _ _ hrel) hd') (by rw[Wt,hN]) _ (by rw[Y4,hdf]))
 ·exact⟨.pan p,c',T,H',n',hp p H' n' V,⟨v,rfl,hrel⟩,hst,ZJ.mono hst.le hr,hN,hdf⟩
theorem We{o : Oper}{os : List Oper}(hd : dOK N o.dst)
   {ds:List Deferred} {c:Ctx} {w:World} {a:Act} (hs:Sim c H n w) (hr:ZJ c T a.tmps) (hN:a.tmps.size=N) (hdf:a.defers=ds) (hw:Region.wanted o (yielded ops a.tmps)=false) (r:AV)
   (h:lrun P N ops os (tput T o.dst (.opt false r)) H n Q):wpList P ops (Jt N ds c H w Q) (o::os) a w:=by
 unfold wpList;rw[if_neg (by simp[hw])];have hd':∀d,o.dst=some d→d<a.tmps.size:=fun d hd2=>by rw[hd2]at hd;rw[hN];exact hd
 exact h c w _ hs (Wn hr (by simp[Rel]) hd') (by rw[Wt,hN]) _ (by rw[Y4,hdf])
theorem YT{o:Oper}{y:Nat→Option Bool}(h:o.guard=none):Region.wanted o y=true:=by simp[Region.wanted,h]
theorem KH{g:Bool}{c:Ctx}{r:AV}{v:Value}(hg:g=true)(h:Rel c r false [v]):Rel c (.opt g r) false [v]:=by
 simp only[Rel];exact .inl ⟨hg,h⟩
theorem Z9:∀(l:List Oper) (T:Nat→AV) (H:Heap) (n:Nat),erun P z N ops l T H n Q→lrun P N ops l T H n Q
 | [],T,H,n,h=>fun c w a hs hr hN ds hd=>⟨.normal,c,T,H,n,h,trivial,.refl hs,hr,hN,hd⟩
 | ⟨dst,op,ty,pos,after,none⟩::os,T,H,n,h=>fun c w a hs hr hN ds hd=>by
   unfold erun at h;obtain⟨hdst,h⟩:=h;have hw:Region.wanted ⟨dst,op,ty,pos,after,none⟩ (yielded ops a.tmps)=true:=YT rfl;have hε:∀x∈op.operands,Rel c (evO T x) false [a.eval x]:=fun x _=>Wy hr x;split at h
   ·cases hq:opQ P z H true T op with
    | none=>rw[hq]at h;exact h.elim
    | some p=>
      obtain⟨C,r⟩:=p;rw[hq]at h;obtain⟨hC,h⟩:=h
      exact YB (k:=fun r' H' n'=>r'=r∧H'=H∧n'=n) (kp:=fun _ _ _=>False) hdst (RH (WT hq rfl hC) ⟨rfl,rfl,rfl⟩) hs hr hN hd hw hε id (fun _ _ _ h=>h)
        (by rintro _ _ _ ⟨rfl,rfl,rfl⟩;exact Z9 os _ _ _ h) (fun _ _ _ h=>h.elim)
   ·cases hq:opW P z H n T op with
    | none=>rw[hq]at h;exact h.elim
    | some p=>
      obtain⟨C,r,H',n'⟩:=p;rw[hq]at h;obtain⟨hC,h⟩:=h
      exact YB (k:=fun r2 H2 n2=>r2=r∧H2=H'∧n2=n') (kp:=fun _ _ _=>False) hdst (UV hq hC ⟨rfl,rfl,rfl⟩) hs hr hN hd hw hε id (fun _ _ _ h=>h)
        (by rintro _ _ _ ⟨rfl,rfl,rfl⟩;exact Z9 os _ _ _ h) (fun _ _ _ h=>h.elim)
   ·rename_i fo args hcl;unfold X4 at hcl;split at hcl
    all_goals first
      | (simp at hcl;done)
      | (split at hcl<;>simp at hcl;done)
      | (simp only [Lm.c.injEq] at hcl
         obtain⟨rfl,rfl⟩:=hcl;exact YB hdst (OpT.call h) hs hr hN hd hw hε id (fun _ _ _ h=>h) (fun r H' n' hk=>Z9 os _ _ _ hk) (fun _ _ _ h=>h))
 | ⟨dst,op,ty,pos,after,some (j,b)⟩::os,T,H,n,h=>fun c w a hs hr hN ds hd=>by
   unfold erun at h;obtain⟨hdst,h⟩:=h;cases ht:gtmp ops j with
   | none=>rw[ht]at h;exact h.elim
   | some t=>
     rw[ht]at h;simp only[Option.bind_some]at h;cases hgv:gval (T t) b with
     | none=>rw[hgv]at h;exact h.elim
     | some g=>
       rw[hgv]at h;have hwg:Region.wanted ⟨dst,op,ty,pos,after,some (j,b)⟩ (yielded ops a.tmps)=g:=L8 hr rfl ht hgv;simp only[Z7]at h;have hε:∀x∈op.operands,Rel c (evO T x) false [a.eval x]:=fun x _=>Wy hr x;split at h
       ·cases hq:opQ P z H g T op with
        | none=>
          rw[hq]at h;obtain⟨hg,h⟩:=h;rw[hg]at hwg h;exact We hdst hs hr hN hd hwg _ (Z9 os _ _ _ h)
        | some p=>
          obtain⟨C,r⟩:=p;rw[hq]at h;obtain⟨hC,h⟩:=h;cases g with
          | true=>
            exact YB (k:=fun r' H' n'=>r'=r∧H'=H∧n'=n) (kp:=fun _ _ _=>False) hdst (RH (WT hq rfl (hC rfl)) ⟨rfl,rfl,rfl⟩) hs hr hN hd hwg hε (.opt true) (fun _ _ _ h=>KH rfl h)
              (by rintro _ _ _ ⟨rfl,rfl,rfl⟩;exact Z9 os _ _ _ h) (fun _ _ _ h=>h.elim)
          | false=>exact We hdst hs hr hN hd hwg _ (Z9 os _ _ _ h)
       ·cases g with
        | true=>
          have h:=h.1 rfl;cases hq:opW P z H n T op with
          | none=>rw[hq]at h;exact h.elim
          | some p=>
            obtain⟨C,r,H',n'⟩:=p;rw[hq]at h;obtain⟨hC,h⟩:=h
            exact YB (k:=fun r2 H2 n2=>r2=r∧H2=H'∧n2=n') (kp:=fun _ _ _=>False) hdst (UV hq hC ⟨rfl,rfl,rfl⟩) hs hr hN hd hwg hε id (fun _ _ _ h=>h)
              (by rintro _ _ _ ⟨rfl,rfl,rfl⟩;exact Z9 os _ _ _ h) (fun _ _ _ h=>h.elim)
        | false=>exact We hdst hs hr hN hd hwg _ (Z9 os _ _ _ (h.2 rfl))
       ·rename_i fo args hcl;unfold X4 at hcl;split at hcl
        all_goals first
          | (simp at hcl;done)
          | (split at hcl<;>simp at hcl;done)
          | (simp only [Lm.c.injEq] at hcl
             obtain⟨rfl,rfl⟩:=hcl;cases g with
             | true=>
               exact YB hdst (OpT.call (ε:=fun x=>strip true (evO T x)) (h.1 rfl)) hs hr hN hd hwg (fun x hx=>UQ rfl (hε x hx)) (.opt true) (fun _ _ _ h=>KH rfl h) (fun r H' n' hk=>Z9 os _ _ _ hk) (fun _ _ _ h=>h)
             | false=>
               obtain⟨r,h⟩:=h.2 rfl;exact We hdst hs hr hN hd hwg _ (Z9 os _ _ _ h))
theorem Kq{id:Nat}(z:TypeId→AV)(h:erun P z N ops ops.toList T H n Q):awp P N (.region id ops false) T H n Q:=fun c w a hs hr hN ds hd=>
 wp_region_list (Z9 _ _ _ _ h c w a hs hr hN ds hd)
end
def resT(r:AV):Option (Prop×List AV)→Option (Prop×List AV)
 | some (C,l)=>some (C,r::l)
 | none=>none
def resL:Option (Prop×AV)→Option (Prop×List AV)→Option (Prop×List AV)
 | some (C1,r),some (C,l)=>some (C1∧C,r::l)
 | _,_=>none
def resC(P:Program)(H:Heap)(T:Nat→AV):List ResultVar→Option (Prop×List AV)
 | []=>some (True,[])
 | .tmp t::rs=>resT (T t) (resC P H T rs)
 | .cell a t::rs=>resL (VT P H t (T a)) (resC P H T rs)
def resV:List AV→AV
 | [r]=>r
 | rs=> .tup rs
def VS(tmps:Array Value):ResultVar→Sem Value
 | .tmp t=>pure (tmps.getD t undef)
 | .cell a t=>do loadVar t (←asAddr (tmps.getD a undef))
theorem Ka{P : Program}{H : Heap}{T : Nat → AV}{c : Ctx}{n : Nat}{w : World}{tmps : Array Value}(hs : Sim c H n w)(hr : ZJ c T tmps):
   ∀(rs:List ResultVar) (C:Prop) (l:List AV),resC P H T rs=some (C,l)→C→∃vs,(rs.mapM (VS tmps)).run P w= .ok vs w∧RelT c l vs
 | [],C,l,h,_=>by
   simp only[resC,Option.some.injEq,Prod.mk.injEq]at h;obtain⟨_,rfl⟩:=h;exact⟨[],osi,by simp[RelT]⟩
 | .tmp t::rs,C,l,h,hC=>by
   simp only[resC]at h;unfold resT at h;split at h
   ·rename_i C' l' hh;simp only[Option.some.injEq,Prod.mk.injEq]at h;obtain⟨rfl,rfl⟩:=h;obtain⟨vs,hv,hrel⟩:=Ka hs hr rs _ _ hh hC;refine⟨tmps.getD t undef::vs,?_,?_⟩
    ·simp only[List.mapM_cons,Sem.run_bind,VS,Sem.run_pure,Result.andThen_ok,hv]
    ·simp only[RelT];exact⟨_,_,rfl,hr t,hrel⟩
   ·simp at h
 | .cell a t::rs,C,l,h,hC=>by
   simp only[resC]at h;unfold resL at h;split at h
   ·rename_i C1 r C' l' hq hh;simp only[Option.some.injEq,Prod.mk.injEq]at h;obtain⟨rfl,rfl⟩:=h;obtain⟨vs,hv,hrel⟩:=Ka hs hr rs _ _ hh hC.2;have hl:=qs_load (P:=P) (ε:=fun _=>T a) (H:=H) (t:=t) (x:= .tmp 0) hq hC.1;obtain⟨v,c',w',hrun,hst,hrv⟩:=hl none 0 "" #[] none c n w (fun _=>tmps.getD a undef) hs (fun x _=>hr a);have hx:=hr a;have key:∃ad,tmps.getD a undef= .pointer (some ad):=by
      cases hT:T a<;>rw[hT]at hq hx<;>simp only[VT]at hq<;>try (simp at hq;done)
      ·simp only[Rel,List.cons.injEq,and_true]at hx;obtain⟨b,off,_,_,e,_⟩:=hx;exact⟨_,e⟩
      ·simp only[Rel,List.cons.injEq,and_true]at hx;obtain⟨b,_,_,_,e⟩:=hx;exact⟨_,e⟩
    obtain⟨ad,had⟩:=key;have hrun2:(loadVar t ad).run P w= .ok v w∧Rel c r false [v]:=by
      have hp:QS P (.load t (.tmp 0)) (fun _=>T a) H r:=hl;have hx2:=hr a;cases hT:T a<;>rw[hT]at hq hx2<;>simp only[VT]at hq<;>try (simp at hq;done)
      ·rename_i d;simp only[Option.some.injEq,Prod.mk.injEq]at hq;obtain⟨h1,rfl⟩:=hq;have hC1:=hC.1;rw[←h1]at hC1;simp only[Rel,List.cons.injEq,and_true]at hx2;obtain⟨b,off,arr,ds,ev,hb,hd,ha⟩:=hx2;obtain⟨ty',fr,hw⟩:=hs.ro b arr hb;obtain⟨v2,hv2,hrel2⟩:=Wq (P:=P) hd hw ha hC1.1 hC1.2;exact kaW
      ·rename_i k ver off i p;unfold qLoadO at hq;split at hq
       ·rename_i ver' esz els hk;simp only[Option.some.injEq,Prod.mk.injEq,nth]at hq;obtain⟨h1,rfl⟩:=hq;have hC1:=hC.1;rw[←h1]at hC1;obtain⟨e1,e2,e3,e4,e5,e6⟩:=hC1;subst e1;simp only[Rel,List.cons.injEq,and_true]at hx2;obtain⟨b,cap,esz',hl',ev⟩:=hx2;obtain⟨he,hc,arr,ty',ds,x,hb,hsz,hr',ha,hx3,hax,_⟩:=(hs.own k _ hk).elem hl' e2;obtain⟨a1,y,b1,ey,hly,hy⟩:=Rel.path p _ _ hx3 e4;subst ey;obtain⟨_,ha2⟩:=At.append.1 hax;obtain⟨ha3,_⟩:=At.append.1 ha2;rw[hly,←e3]at ha3;obtain⟨v2,hv2,hrel2⟩:=Wq (P:=P) hy hb ha3 e5 e6;exact kaW
       ·simp at hq
    refine⟨v::vs,?_,?_⟩
    ·simp only[List.mapM_cons,Sem.run_bind,VS,had,asAddr,Sem.run_pure,Result.andThen_ok,hrun2.1,hv]
    ·simp only[RelT];exact⟨_,_,rfl,hrun2.2,hrel⟩
   ·simp at h
theorem QX{P : Program}{fn : Func}{H : Heap}{T : Nat → AV}{c : Ctx}{n : Nat}{w : World}{tmps : Array Value}(hs : Sim c H n w)(hr : ZJ c T tmps){C : Prop}{l : List AV}
   (h:resC P H T fn.results.toList=some (C,l)) (hC:C):∃v,(results fn tmps).run P w= .ok v w∧Rel c (resV l) false [v]:=by
 obtain⟨vs,hv,hrel⟩:=Ka (P:=P) hs hr _ _ _ h hC;have e:fn.results.mapM (VS tmps)=Functor.map List.toArray (fn.results.toList.mapM (VS tmps)):=by
   rw[Array.mapM_eq_mapM_toList]
 have hm:(fn.results.mapM (VS tmps)).run P w= .ok vs.toArray w:=by rw[e];simp[hv]
 have hres:(results fn tmps).run P w= .ok (if h:vs.toArray.size=1 then vs.toArray[0]else .tuple vs.toArray) w:=by
   have : results fn tmps = (do
       let vs←fn.results.mapM (VS tmps)
       pure (if h:vs.size=1 then vs[0]else .tuple vs)):=by
     unfold results;congr 1
   rw[this,Sem.run_bind,hm];rfl
 refine⟨_,hres,?_⟩
 match l,vs,hrel with
 | [],_,hrel=>simp only[RelT]at hrel;subst hrel;simp[resV,Rel,RelT]
 | [r],_,hrel=>
   simp only[RelT]at hrel;obtain⟨v,r',rfl,h1,rfl⟩:=hrel;simpa [resV]using h1
 | r1::r2::rs,_,hrel=>
   have hrel':=hrel;simp only[RelT]at hrel;obtain⟨v,_,rfl,_,v2,r',rfl,_,_⟩:=hrel;simp only[resV,Rel];exact⟨_,osi,hrel'⟩
def Jd(x:Option (Prop×List AV))(k:List AV→Prop):Prop:=
 match x with
 | some (C,r)=>C∧k r
 | none=>False
theorem contL_some(C:Prop)(r:List AV)(k:List AV→Prop):Jd (some (C,r)) k=(C∧k r):=rfl
@[congr] theorem contL_congr{x y:Option (Prop×List AV)}{k:List AV→Prop}(h:x=y):Jd x k=Jd y k:=by rw[h]
def Fin(P:Program)(rs:List ResultVar)(K:ARes→Heap→Nat→Prop):QK
 | .normal,T,H,n=>Jd (resC P H T rs) fun l=>K (.val (resV l)) H n
 | .ret,T,H,n=>Jd (resC P H T rs) fun l=>K (.val (resV l)) H n
 | .pan p,_,H,n=>K (.pan p) H n
 | .exit _,_,_,_=>False
def MC:List Oper→Nat→Option Tmp
 | [],_=>none
 | o::_,0=>o.dst
 | _::l,j+1=>MC l j
theorem gtmpL_eq(l:List Oper)(j:Nat):MC l j=(l[j]?).bind (·.dst):=by
 induction l generalizing j with
 | nil=>simp[MC]
 | cons o l ih=>cases j<;>simp[MC,ih]
def tl:List (Nat×AV)→Nat→AV
 | [],_=> .junk
 | (k,v)::l,t=>if t=k then v else tl l t
theorem tput_tl(l:List (Nat×AV))(d:Nat)(r:AV):tput (tl l) (some d) r=tl ((d,r)::l):=by
 funext t;simp[tput,tl]
theorem tput_none(T:Nat→AV)(r:AV):tput T none r=T:=rfl
def tsel(live:List Nat)(T:Nat→AV):Nat→AV:=tl (live.map fun t=>(t,T t))
theorem tsel_eq(live:List Nat)(T:Nat→AV):tsel live T=tl (live.map fun t=>(t,T t)):=rfl
theorem Nq{c:Ctx}{T:Nat→AV}{tmps:Array Value}(live:List Nat)(h:ZJ c T tmps):ZJ c (tsel live T) tmps:=fun t=>by
 unfold tsel
 induction live with
 | nil=>simp[tl,Rel]
 | cons x l ih=>
   simp only[List.map_cons,tl];split
   ·rename_i e;subst e;exact h t
   ·exact ih
def argT(args:List AV):Nat→AV:=fun t=>args.getD t .junk
def argL:Nat→List AV→List (Nat×AV)
 | _,[]=>[]
 | k,a::l=>(k,a)::argL (k+1) l
theorem Ra(args:List AV):tl (argL 0 args)=argT args:=by
 have:∀k t,tl (argL k args) t=if t<k then .junk else args.getD (t-k) .junk:=by
   induction args with
   | nil=>intro k t;simp[argL,tl]
   | cons a l ih=>
     intro k t;simp only[argL,tl,ih];split
     ·rename_i e;subst e;simp
     ·rename_i e;by_cases h:t<k
      ·rw[if_pos h,if_pos om]
      ·rw[if_neg h,if_neg om,show t-k=(t-(k+1))+1 by omega];simp
 funext t;simpa [argT]using this 0 t
section
variable {P:Program}{z:TypeId→AV}{N:Nat}{ops:Array Oper}{T:Nat→AV}{H:Heap}{n:Nat}{Q:QK}
theorem Yl(live:List Nat){code:Code}(h:awp P N code (tsel live T) H n Q):awp P N code T H n Q:=fun c w a hs hr hN ds hd=>h c w a hs (Nq live hr) hN ds hd
theorem Zg{id : Nat}{l : List Oper}{y : Code}(z : TypeId → AV)(live : List Nat)
   (h:∀K:KT,(∀T H n,awp P N y T H n Q→K T H n)→erun P z N l.toArray l T H n (ZK (fun T' H' n'=>K (tsel live T') H' n') Q)):
   awp P N (.seq (.region id l.toArray false) y) T H n Q:=
 JN (Kq z (by simpa using h (fun T' H' n'=>awp P N y T' H' n' Q) (fun _ _ _ h=>h)) |>.mono fun e T' H' n' hq=>by
   cases e<;>first | exact Yl live hq | exact hq)
end
theorem acalls_of_awp{P : Program}{f : FuncId}{fn : Func}{code : Code}{args : List AV}{H : Heap}{n N : Nat}{rs : List ResultVar}{K : ARes → Heap → Nat → Prop}
   (hf:P.funcs[f]? =some fn) (hb:fn.body=some code) (hN:fn.ntmps=N) (hrs:fn.results.toList=rs) (hlen:args.length≤N) (h:awp P N code (tl (argL 0 args)) H n (Fin P rs K)):Zn P f args H n K:=fun c w vs hs hr=>by
 rw[Ra]at h;subst hN;subst hrs;have hl:vs.length=args.length:=by
   clear h hlen
   induction args generalizing vs with
   | nil=>simp only[RelT]at hr;subst hr;rfl
   | cons x xs ih=>
     simp only[RelT]at hr;obtain⟨v,r,rfl,_,h2⟩:=hr;simp[ih r h2]
 refine calls_of_wp hf hb (Go.wp_mono (h c w ⟨vs.toArray++Array.replicate (fn.ntmps-vs.toArray.size) undef,[]⟩ hs ?_ oz [] rfl) ?_)
 ·intro t;rcases Nat.lt_or_ge t args.length with ht | ht
  ·obtain⟨v,hv,hrel⟩:=RelT.nth hr (List.getElem?_eq_getElem ht);have e:(vs.toArray++Array.replicate (fn.ntmps-vs.toArray.size) undef).getD t undef=v:=by
     exact kcE
   rw[e];simpa [argT,List.getD,List.getElem?_eq_getElem ht]using hrel
  ·have:argT args t= .junk:=by simp[argT,List.getD,List.getElem?_eq_none ht]
   rw[this];simp[Rel]
 ·rintro e a' w' ⟨ae,c',T',H',n',hQ,hm,hst,hr',_,hd⟩
  have fin : ∀ (x : Option (Prop × List AV)), x = resC P H' T' fn.results.toList → Jd x (fun l => K (.val (resV l)) H' n') →
      ∃v,(results fn a'.tmps).run P w'= .ok v w'∧∃res c' H' n',K res H' n'∧Step c H w c' H' n' w'∧
        match Ending.returned v,res with
        | .returned v,.val r=>Rel c' r false [v]
        | .panicked ch,.pan p=>∃v,ch=[{v,recovered:=false}]∧Rel c' p false [v]
        | _,_=>False:=fun x hx hc=>by
    cases x with
    | none=>exact hc.elim
    | some p=>
      obtain⟨C,l⟩:=p;obtain⟨hC,V⟩:=hc;obtain⟨v,hv,hrel⟩:=QX hst.sim hr' hx.symm hC;exact⟨v,hv,.val _,c',H',n',V,hst,hrel⟩
  cases ae with
  | normal=>
    cases e<;>simp only[ZF]at hm;exact⟨hd,fin _ rfl hQ⟩
  | ret=>
    cases e<;>simp only[ZF]at hm;exact⟨hd,fin _ rfl hQ⟩
  | exit i=>exact hQ.elim
  | pan p=>
    cases e<;>simp only[ZF]at hm;exact⟨hd,.pan p,c',H',n',hQ,hst,hm⟩
theorem erun_q{P:Program}{z:TypeId→AV}{N:Nat}{ops:Array Oper}{T:Nat→AV}{H:Heap}{n:Nat}{Q:QK}{dst:Option Tmp}{op:Op}{ty:TypeId}{pos:String}{after:Array Edge}{os:List Oper}(h:X4 op= .q):
 erun P z N ops (⟨dst,op,ty,pos,after,none⟩::os) T H n Q=(dOK N dst∧cont (opQ P z H true T op) fun r=>erun P z N ops os (tput T dst r) H n Q):=by rw[erun.eq_2,h]
theorem erun_w{P:Program}{z:TypeId→AV}{N:Nat}{ops:Array Oper}{T:Nat→AV}{H:Heap}{n:Nat}{Q:QK}{dst:Option Tmp}{op:Op}{ty:TypeId}{pos:String}{after:Array Edge}{os:List Oper}(h:X4 op= .w):
 erun P z N ops (⟨dst,op,ty,pos,after,none⟩::os) T H n Q=(dOK N dst∧Y7 (opW P z H n T op) fun r H' n'=>erun P z N ops os (tput T dst r) H' n' Q):=by rw[erun.eq_2,h]
theorem erun_c{P:Program}{z:TypeId→AV}{N:Nat}{ops:Array Oper}{T:Nat→AV}{H:Heap}{n:Nat}{Q:QK}{dst:Option Tmp}{fo:Operand}{args:List Operand}{ts:Array TypeId}{ty:TypeId}{pos:String}{after:Array Edge}{os:List Oper}:
 erun P z N ops (⟨dst,.call ⟨.value fo,args.toArray,ts⟩,ty,pos,after,none⟩::os) T H n Q=(dOK N dst∧Vr P (evO T fo) (args.map (evO T)) H n (fun r H' n'=>erun P z N ops os (tput T dst r) H' n' Q) (fun p H' n'=>Q (.pan p) T H' n')):=by rw[erun.eq_2];rfl
theorem erun_gq{P:Program}{z:TypeId→AV}{N:Nat}{ops:Array Oper}{T:Nat→AV}{H:Heap}{n:Nat}{Q:QK}{dst:Option Tmp}{op:Op}{ty:TypeId}{pos:String}{after:Array Edge}{os:List Oper}{j:Nat}{b:Bool}(h:X4 op= .q):
 erun P z N ops (⟨dst,op,ty,pos,after,some (j,b)⟩::os) T H n Q=(dOK N dst∧Z7 ((gtmp ops j).bind fun t=>gval (T t) b) fun g=>Xb g (opQ P z H g T op) fun r=>erun P z N ops os (tput T dst r) H n Q):=by rw[erun.eq_3,h]
theorem erun_gc{P:Program}{z:TypeId→AV}{N:Nat}{ops:Array Oper}{T:Nat→AV}{H:Heap}{n:Nat}{Q:QK}{dst:Option Tmp}{fo:Operand}{args:List Operand}{ts:Array TypeId}{ty:TypeId}{pos:String}{after:Array Edge}{os:List Oper}{j:Nat}{b:Bool}:
 erun P z N ops (⟨dst,.call ⟨.value fo,args.toArray,ts⟩,ty,pos,after,some (j,b)⟩::os) T H n Q=(dOK N dst∧Z7 ((gtmp ops j).bind fun t=>gval (T t) b) fun g=>
   PR P g (strip g (evO T fo)) (args.map fun x=>strip g (evO T x)) H n (fun r H' n'=>erun P z N ops os (tput T dst r) H' n' Q) (fun p H' n'=>Q (.pan p) T H' n')):=by rw[erun.eq_3];rfl
theorem opQ_len{P:Program}{z:TypeId→AV}{H:Heap}{g:Bool}{T:Nat→AV}{b:Builtin}{args:List Operand}{ts:List TypeId}:opQ P z H g T (.call ⟨.builtin b,args.toArray,ts.toArray⟩)=NQ P b ts (args.map fun x=>strip g (evO T x)):=by simp[opQ]
theorem gtmp_eq(l:List Oper)(j:Nat):gtmp l.toArray j=MC l j:=by
 rw[gtmpL_eq];unfold gtmp;simp
theorem PQ(P:Program)(f:FuncId)(first captured:List AV)(args:List AV)(H:Heap)(n:Nat)(k kp:AV→Heap→Nat→Prop):
 Vr P (.fn (.func f) first captured) args H n k kp=(((∃fn:Func,P.funcs[f]? =some fn∧fn.body.isSome∧(fn.name== "runtime.NumGoroutine")=false)∧Zn P f (first++args++captured) H n fun res H' n'=>match res with
   | .val r=>k r H' n'
   | .pan p=>kp p H' n')∨ExtC P f (first++args++captured) H n k):=rfl
theorem Zu{P : Program}{f : FuncId}{fn : Func}{first captured args args' : List AV}{H : Heap}{n : Nat}{k kp : AV → Heap → Nat → Prop}{r : AV}{H' : Heap}{n' : Nat}
   (hf:P.funcs[f]? =some fn) (hb:fn.body.isSome=true) (hn:(fn.name== "runtime.NumGoroutine")=false) (ha:first++args++captured=args') (h:Ret P f args' H n r H' n') (hk:k r H' n'):Vr P (.fn (.func f) first captured) args H n k kp:=by
 rw[PQ];exact .inl ⟨⟨fn,hf,hb,hn⟩,by rw[ha];exact h.use hk⟩
theorem YM{P : Program}{g : Bool}{f : FuncId}{fn : Func}{first captured args args' : List AV}{H : Heap}{n : Nat}{k kp : AV → Heap → Nat → Prop}{r : AV}
   (hf:P.funcs[f]? =some fn) (hb:fn.body.isSome=true) (hn:(fn.name== "runtime.NumGoroutine")=false) (ha:first++args++captured=args') (h:g=true→Ret P f args' H n r H n) (hk:k (.opt g r) H n):PR P g (.fn (.func f) first captured) args H n k kp:=by
 refine⟨fun hg=> ?_,fun hg=>⟨r,hg▸hk⟩⟩;subst hg;exact Zu hf hb hn ha (h rfl) hk
inductive DK where
 | m
 | q
 | c
 | w (inc:List Nat)
 | a (key:Nat) (inc:List Nat)
section
variable (P:Program)(z:TypeId→AV)(N:Nat)(ops:Array Oper)
def gvO(T:Nat→AV)(o:Oper):Option Bool:=
 match o.guard with
 | none=>some true
 | some (j,b)=>(gtmp ops j).bind fun t=>gval (T t) b
def putG(o:Oper)(g:Bool)(r:AV):AV:=
 match o.guard with
 | none=>r
 | some _=> .opt g r
def Jr(fv:AV)(args:List AV)(H:Heap)(r:AV):Prop:=∀n,Vr P fv args H n (fun r' H' n'=>r'=r∧H'=H∧n'=n) (fun _ _ _=>False)
def YD(q:Nat)(T:Nat→AV)(H H':Heap):Prop:=
 match ops[q]? with
 | none=>True
 | some o=>
   match o.op,o.guard with
   | .call ⟨.value fo,args,_⟩,none=>∀d,o.dst=some d→Jr P (strip true (evO T fo)) (args.toList.map fun x=>strip true (evO T x)) H' (T d)
   | .call ⟨.value _,_,_⟩,some _=>False
   | op,_=>∀g,gvO ops T o=some g→opQ P z H' g T op=opQ P z H g T op
def newMk(P:Program)(z:TypeId→AV)(key:Nat):Option TypeId→Option (Nat×Nat)→AV→AV→Option (Prop×AV×AObj)
 | some e,some (s,b),.int _ l,.int _ c=>some (0≤l∧l≤c∧b*c≤281474976710656∧c≤9223372036854775807∧s=(z e).sz∧ZW P e (z e),.osl key 1 0 l.toNat,.arr 1 s (List.replicate c.toNat (z e)))
 | _,_,_,_=>none
def KJ(P:Program)(z:TypeId→AV)(key:Nat)(T:Nat→AV):Op→Option (Prop×AV×AObj)
 | .alloc t=>some (ZW P t (z t),.loc key 1 0 0 [],.arr 1 (z t).sz [z t])
 | .makeSlice t x y=>newMk P z key (tElT P t) (tEl P t) (evO T x) (evO T y)
 | _=>none
def opAO(H:Heap)(key n:Nat):Option AObj→Option (Prop×AV×AObj)→Option (Prop×AV×Heap×Nat)
 | some (.arr 0 _ []),some (C,r,o)=>some (C,r,H.put key (some o),n)
 | _,_=>none
def opA(P:Program)(z:TypeId→AV)(H:Heap)(key n:Nat)(T:Nat→AV)(op:Op):Option (Prop×AV×Heap×Nat):=opAO H key n (H key) (KJ P z key T op)
def Js(H H2:Heap):Prop:=∀k,(∃e,H k=some (.arr 0 e []))∨H2 k=H k
def sameA(q:Nat)(T:Nat→AV)(H:Heap):Prop:=∀H2,Js H H2→YD P z ops q T H H2
def wK(k kp:AV→Heap→Nat→Prop):ARes→Heap→Nat→Prop
 | .val r,H,n=>k r H n
 | .pan p,H,n=>kp p H n
theorem OpT.congr{P:Program}{o:Oper}{ε ε':Operand→AV}{H:Heap}{n:Nat}{K:ARes→Heap→Nat→Prop}(h:OpT P o ε H n K)(he:∀x∈o.op.operands,ε' x=ε x):OpT P o ε' H n K:=
 fun c w a hs hr=>h c w a hs fun x hx=>he x hx▸hr x hx
def Z0(i:Nat)(k:DK)(I:List Nat)(T:Nat→AV)(H:Heap)(n:Nat)(K:KT)(Q:QK):Prop:=
 match ops[i]? with
 | none=>False
 | some o=>dOK N o.dst∧match k with
   | .m=>Z7 (gvO ops T o) fun g=>match o.op with
     | .move x=>K (tput T o.dst (putG o g (strip g (evO T x)))) H n
     | _=>False
   | .q=>Z7 (gvO ops T o) fun g=>match opQ P z H g T o.op with
     | some (C,r)=>(g=true→C)∧K (tput T o.dst (putG o g r)) H n
     | none=>g=false∧K (tput T o.dst (putG o g .junk)) H n
   | .c=>match o.op with
     | .call ⟨.value fo,args,_⟩=>Z7 (gvO ops T o) fun g=>∃r,(g=true→Jr P (strip g (evO T fo)) (args.toList.map fun x=>strip g (evO T x)) H r)∧K (tput T o.dst (putG o g r)) H n
     | _=>False
   | .w _=>o.guard=none∧OpT P o (evO T) H n (wK (fun r H' n'=>(∀q∈I,YD P z ops q T H H')∧K (tput T o.dst r) H' n') fun p H' n'=>Q (.pan p) T H' n')
   | .a key _=>o.guard=none∧Y7 (opA P z H key n T o.op) fun r H' n'=>(∀q∈I,sameA P z ops q T H)∧K (tput T o.dst r) H' n'
def DK.inc:DK→List Nat
 | .w I=>I
 | .a _ I=>I
 | _=>[]
def drun:List (Nat×DK×List Nat)→(Nat→AV)→Heap→Nat→(QK)→Prop
 | [],T,H,n,Q=>Q .normal T H n
 | (i,k,I)::l,T,H,n,Q=>Z0 P z N ops i k I T H n (fun T H n=>drun l T H n Q) Q
variable {P z N ops}
theorem Wh{i : Nat}{k : DK}{I : List Nat}{T : Nat → AV}{H : Heap}{n : Nat}{K K' : KT}{Q Q' : QK}
   (hk:∀T H n,K T H n→K' T H n) (hq:∀p T H n,Q (.pan p) T H n→Q' (.pan p) T H n) (h:Z0 P z N ops i k I T H n K Q):Z0 P z N ops i k I T H n K' Q':=by
 unfold Z0 at h ⊢;split
 ·rename_i e;rw[e]at h;exact h
 ·rename_i o e;rw[e]at h;obtain⟨hd,h⟩:=h;refine⟨hd,?_⟩;cases k with
  | m=>
    simp only at h ⊢;cases hg:gvO ops T o with
    | none=>rw[hg]at h;exact h.elim
    | some g=>
      rw[hg]at h;simp only[Z7]at h ⊢;split
      ·rename_i x ex;rw[ex]at h;exact hk _ _ _ h
      ·rename_i hne;split at h
       ·rename_i x ex;exact(hne x ex).elim
       ·exact h.elim
  | q=>
    simp only at h ⊢;cases hg:gvO ops T o with
    | none=>rw[hg]at h;exact h.elim
    | some g=>
      rw[hg]at h;simp only[Z7]at h ⊢;cases hq:opQ P z H g T o.op with
      | none=>rw[hq]at h;exact⟨h.1,hk _ _ _ h.2⟩
      | some p=>rw[hq]at h;exact⟨h.1,hk _ _ _ h.2⟩
  | c=>
    simp only at h ⊢;split
    ·rename_i fo args ts ex;rw[ex]at h;cases hg:gvO ops T o with
     | none=>rw[hg]at h;exact h.elim
     | some g=>
       rw[hg]at h;obtain⟨r,h1,h2⟩:=h;exact⟨r,h1,hk _ _ _ h2⟩
    ·rename_i hne;split at h
     ·rename_i fo args ts ex;exact(hne _ _ _ ex).elim
     ·exact h.elim
  | w inc=>exact⟨h.1,h.2.mono fun r H n hr=>by cases r with | val r=>exact⟨hr.1,hk _ _ _ hr.2⟩ | pan p=>exact hq _ _ _ _ hr⟩
  | a key inc=>
    simp only at h ⊢;refine⟨h.1,?_⟩;have h:=h.2;cases hw:opA P z H key n T o.op with
    | none=>rw[hw]at h;exact h.elim
    | some p=>rw[hw]at h;exact⟨h.1,h.2.1,hk _ _ _ h.2.2⟩
theorem Vb{i:Nat}{k:DK}{I:List Nat}{T:Nat→AV}{H:Heap}{n:Nat}{K K':KT}{Q:QK}
 (hk:∀T H n,K T H n→K' T H n) (h:Z0 P z N ops i k I T H n K Q):Z0 P z N ops i k I T H n K' Q:=Wh hk (fun _ _ _ _ h=>h) h
theorem Jc{Q : QK}{b b' : List (Nat × DK × List Nat)}(hb : ∀ T H n, drun P z N ops b T H n Q → drun P z N ops b' T H n Q):
   ∀(a:List (Nat×DK×List Nat)) (T:Nat→AV) (H:Heap) (n:Nat),drun P z N ops (a++b) T H n Q→drun P z N ops (a++b') T H n Q
 | [],T,H,n,h=>hb T H n h
 | (i,k,I)::a,T,H,n,h=>Vb (fun T H n h=>Jc hb a T H n h) h
theorem PE{T:Nat→AV}{dst:Option Tmp}{r:AV}{x:Operand}(h:∀d,dst=some d→x≠ .tmp d):evO (tput T dst r) x=evO T x:=by
 cases dst with
 | none=>rfl
 | some d=>
   cases x with
   | tmp t=>
     have:t≠d:=fun e=>h d rfl (by rw[e]);simp[evO,tput,this]
   | _=>rfl
def XE(op:Op):List Tmp:=op.operands.toList.filterMap fun | .tmp t=>some t | _=>none
theorem Kh{op:Op}{t:Tmp}(h:Operand.tmp t∈op.operands):t∈XE op:=
 List.mem_filterMap.2 ⟨.tmp t,by simpa using h,rfl⟩
theorem VY{T:Nat→AV}{dst:Option Tmp}{r:AV}{op:Op}(h:∀d,dst=some d→d∉XE op){x:Operand}(hx:x∈op.operands):evO (tput T dst r) x=evO T x:=
 PE fun d hd e=>h d hd (Kh (e▸hx))
theorem Q5{H:Heap}{g:Bool}{T:Nat→AV}{dst:Option Tmp}{r:AV}{op:Op}(h:∀d,dst=some d→d∉XE op):opQ P z H g (tput T dst r) op=opQ P z H g T op:=by
 have e:∀x∈op.operands,evO (tput T dst r) x=evO T x:=fun x hx=>VY h hx;unfold opQ;split<;>simp only[Op.operands,Call.operands]at e
 all_goals first
   | rfl
   | (rw[e _ osi];done)
   | (rw[e _ osi,e _ osi];done)
   | (rw[e _ osi,e _ osi,e _ osi];done)
   | (congr 1;apply List.map_congr_left;intro x hx;rw[e x (by simpa using hx)];done)
   | (rename_i t x lo hi mx
      have e1:∀(y:Option Operand),(∀o,y=some o→o∈(Op.slice t x lo hi mx).operands)→(y.map fun o=>strip g (evO (tput T dst r) o))=y.map fun o=>strip g (evO T o):=fun y hy=>by
        cases y with
        | none=>rfl
        | some o=>simp only[Option.map_some];rw[VY h (hy o rfl)]
      rw[e1 lo (fun o ho=>by simp[Op.operands,ho]),e1 hi (fun o ho=>by simp[Op.operands,ho]),e1 mx (fun o ho=>by simp[Op.operands,ho]),e x osi];done)
   | (rename_i t ps
      have e1:(ps.toList.map fun p=>(p.1,strip g (evO (tput T dst r) p.2)))=ps.toList.map fun p=>(p.1,strip g (evO T p.2)):=List.map_congr_left fun p hp=>by
        exact kcF
      rw[e1];done)
   | (rename_i t len ps
      have e1:(ps.toList.map fun p=>strip g (evO (tput T dst r) p.2))=ps.toList.map fun p=>strip g (evO T p.2):=List.map_congr_left fun p hp=>by
        exact kcF
      rw[e1];done)
   | (rename_i fn a b
      have e1:(a.toList.map fun x=>strip g (evO (tput T dst r) x))=a.toList.map fun x=>strip g (evO T x):=List.map_congr_left fun x hx=>by
        rw[e x (by simp at hx;simp[hx])]
      have e2:(b.toList.map fun x=>strip g (evO (tput T dst r) x))=b.toList.map fun x=>strip g (evO T x):=List.map_congr_left fun x hx=>by
        rw[e x (by simp at hx;simp[hx])]
      rw[e1,e2];done)
   | (rename_i x y z;rw[e x osi,e y osi,e z osi])
   | (rename_i t x i;rw[e x osi,e i osi])
   | (rename_i o t x y _;rw[e x osi,e y osi])
def Pp(o:Oper):List Tmp:=
 match o.guard with
 | some (j,_)=>(gtmp ops j).toList
 | none=>[]
def looks(o:Oper):List Tmp:=XE o.op++Pp (ops:=ops) o
theorem Q8{T:Nat→AV}{dst:Option Tmp}{r:AV}{o:Oper}(h:∀d,dst=some d→d∉Pp (ops:=ops) o):gvO ops (tput T dst r) o=gvO ops T o:=by
 unfold gvO Pp at*;cases hg:o.guard with
 | none=>rfl
 | some jb=>
   obtain⟨j,b⟩:=jb;rw[hg]at h;simp only at h ⊢;cases ht:gtmp ops j with
   | none=>rfl
   | some t=>
     rw[ht]at h;simp only[Option.bind_some];cases dst with
     | none=>rfl
     | some d=>
       have hne:t≠d:=fun e=>h d rfl (by simp[e]);simp[tput,hne]
theorem VG(T:Nat→AV){x y:Option Tmp}(r s:AV)(h:∀d,x=some d→y≠some d):tput (tput T x r) y s=tput (tput T y s) x r:=by
 cases x with
 | none=>rfl
 | some d=>
   cases y with
   | none=>rfl
   | some e=>
     have hne:d≠e:=fun he=>h d rfl (by rw[he]);funext t;simp only[tput];by_cases h1:t=d
     ·subst h1;simp[hne]
     ·by_cases h2:t=e<;>simp[h1,h2,Ne.symm hne]
def Apart(o o':Oper):Prop:=
 (∀d,o.dst=some d→d∉looks (ops:=ops) o')∧(∀d,o'.dst=some d→d∉looks (ops:=ops) o)∧(∀d,o.dst=some d→o'.dst≠some d)
theorem WN{q : Nat}{T : Nat → AV}{dst : Option Tmp}{r : AV}{H H' : Heap}(h : ∀ o, ops[q]? = some o → ∀ d, dst = some d → d ∉ looks (ops := ops) o ∧ o.dst ≠ some d):
   YD P z ops q (tput T dst r) H H'↔YD P z ops q T H H':=by
 unfold YD;split
 ·exact Iff.rfl
 ·rename_i o ho;have hl:=h o ho;have h1:∀d,dst=some d→d∉XE o.op:=fun d hd hm=>(hl d hd).1 (List.mem_append_left _ hm);have h2:∀d,dst=some d→d∉Pp (ops:=ops) o:=fun d hd hm=>(hl d hd).1 (List.mem_append_right _ hm);split
  ·rename_i fo args ts hop hgd;rw[hop]at h1;have e:∀x∈(Op.call ⟨.value fo,args,ts⟩).operands,evO (tput T dst r) x=evO T x:=fun x hx=>VY h1 hx;simp only[Op.operands,Call.operands]at e;have e2:(args.toList.map fun x=>strip true (evO (tput T dst r) x))=args.toList.map fun x=>strip true (evO T x):=List.map_congr_left fun x hx=>by rw[e x (by simp at hx;simp[hx])]
   rw[e fo osi,e2];refine forall_congr' fun d=>forall_congr' fun hd=> ?_;have e3:tput T dst r d=T d:=by
     cases dst with
     | none=>rfl
     | some d'=>
       have:d≠d':=fun he=>(hl d' rfl).2 (by rw[←he];exact hd);simp[tput,this]
   rw[e3]
  ·exact Iff.rfl
  ·rw[Q8 h2];refine forall_congr' fun g=>forall_congr' fun _=> ?_;rw[Q5 h1,Q5 h1]
theorem sameOne_tput{q:Nat}{T:Nat→AV}{dst:Option Tmp}{r:AV}{H H':Heap}(h:∀o,ops[q]? =some o→∀d,dst=some d→d∉looks (ops:=ops) o∧o.dst≠some d):
 YD P z ops q (tput T dst r) H H'→YD P z ops q T H H':=(WN h).1
def Good(P:Program)(z:TypeId→AV)(ops:Array Oper)(o:Oper)(k:DK)(T:Nat→AV)(H:Heap)(v:AV):Prop:=
 match k with
 | .m=>∃g x,gvO ops T o=some g∧o.op= .move x∧v=putG o g (strip g (evO T x))
 | .q=>∃g,gvO ops T o=some g∧((∃C r,opQ P z H g T o.op=some (C,r)∧(g=true→C)∧v=putG o g r)∨(opQ P z H g T o.op=none∧g=false∧v=putG o g .junk))
 | .c=>∃g fo args ts r,gvO ops T o=some g∧o.op= .call ⟨.value fo,args,ts⟩∧(g=true→Jr P (strip g (evO T fo)) (args.toList.map fun x=>strip g (evO T x)) H r)∧v=putG o g r
 | .w _=>False
 | .a _ _=>False
def DK.isW:DK→Bool
 | .w _=>true
 | .a _ _=>true
 | _=>false
theorem YW{i : Nat}{k : DK}{I : List Nat}{T : Nat → AV}{H : Heap}{n : Nat}{K : KT}{Q : QK}{o : Oper}(ho : ops[i]? = some o)(hk : k.isW = false):
   Z0 P z N ops i k I T H n K Q↔dOK N o.dst∧∃v,Good P z ops o k T H v∧K (tput T o.dst v) H n:=by
 unfold Z0;rw[ho];simp only;refine and_congr_right fun _=> ?_;cases k with
 | w inc=>simp[DK.isW]at hk
 | a key inc=>simp[DK.isW]at hk
 | m=>
   simp only[Good];cases hg:gvO ops T o with
   | none=>simp[Z7]
   | some g=>
     simp only[Z7];constructor
     ·intro h;split at h
      ·rename_i x ex;exact⟨_,⟨g,x,rfl,ex,rfl⟩,h⟩
      ·exact h.elim
     ·rintro⟨v,⟨g',x,e1,e2,e3⟩,h⟩;cases e1;rw[e2];subst e3;exact h
 | q=>
   simp only[Good];cases hg:gvO ops T o with
   | none=>simp[Z7]
   | some g=>
     simp only[Z7];cases hq:opQ P z H g T o.op with
     | none=>
       constructor
       ·rintro⟨h1,h2⟩;exact⟨_,⟨g,rfl,.inr ⟨hq,h1,rfl⟩⟩,h2⟩
       ·rintro⟨v,⟨g',e1,e2⟩,h⟩;cases e1;rcases e2 with⟨C,r,e2,_⟩ | ⟨_,e3,e4⟩
        ·rw[hq]at e2;simp at e2
        ·subst e4;exact⟨e3,h⟩
     | some p=>
       obtain⟨C,r⟩:=p;constructor
       ·rintro⟨h1,h2⟩;exact⟨_,⟨g,rfl,.inl ⟨C,r,hq,h1,rfl⟩⟩,h2⟩
       ·rintro⟨v,⟨g',e1,e2⟩,h⟩;cases e1;rcases e2 with⟨C',r',e2,e3,e4⟩ | ⟨e2,_⟩
        ·rw[hq]at e2;cases e2;subst e4;exact⟨e3,h⟩
        ·rw[hq]at e2;simp at e2
 | c=>
   simp only[Good];constructor
   ·intro h;split at h
    ·rename_i fo args ts ex;cases hg:gvO ops T o with
     | none=>rw[hg]at h;exact h.elim
     | some g=>
       rw[hg]at h;obtain⟨r,h1,h2⟩:=h;exact⟨_,⟨g,fo,args,ts,r,rfl,ex,h1,rfl⟩,h2⟩
    ·exact h.elim
   ·rintro⟨v,⟨g,fo,args,ts,r,e1,e2,e3,e4⟩,h⟩;rw[e2];simp only[e1,Z7];subst e4;exact⟨r,e3,h⟩
theorem Good.tput{o : Oper}{k : DK}{T : Nat → AV}{H : Heap}{v : AV}{dst : Option Tmp}{r : AV}(h : ∀ d, dst = some d → d ∉ looks (ops := ops) o):
   Good P z ops o k (tput T dst r) H v↔Good P z ops o k T H v:=by
 have h1:∀d,dst=some d→d∉XE o.op:=fun d hd hm=>h d hd (List.mem_append_left _ hm);have h2:∀d,dst=some d→d∉Pp (ops:=ops) o:=fun d hd hm=>h d hd (List.mem_append_right _ hm);cases k with
 | w _=>exact Iff.rfl
 | a _ _=>exact Iff.rfl
 | m=>
   simp only[Good,Q8 h2];constructor
   ·rintro⟨g,x,e1,e2,e3⟩;rw[VY h1 (by rw[e2];simp[Op.operands])]at e3;exact⟨g,x,e1,e2,e3⟩
   ·rintro⟨g,x,e1,e2,e3⟩;refine⟨g,x,e1,e2,?_⟩;rw[VY h1 (by rw[e2];simp[Op.operands])];exact e3
 | q=>simp only[Good,Q8 h2,Q5 h1]
 | c=>
   have key:∀fo args ts,o.op= .call ⟨.value fo,args,ts⟩→evO (Sx.tput T dst r) fo=evO T fo∧∀g,(args.toList.map fun x=>strip g (evO (Sx.tput T dst r) x))=args.toList.map fun x=>strip g (evO T x):=fun fo args ts e=>by
     refine⟨VY h1 (by rw[e];simp[Op.operands,Call.operands]),fun g=>List.map_congr_left fun x hx=> ?_⟩;rw[VY h1 (by rw[e];simp at hx;simp[Op.operands,Call.operands,hx])]
   simp only[Good,Q8 h2];constructor
   ·rintro⟨g,fo,args,ts,r',e1,e2,e3,e4⟩;obtain⟨k1,k2⟩:=key fo args ts e2;rw[k1,k2 g]at e3;exact⟨g,fo,args,ts,r',e1,e2,e3,e4⟩
   ·rintro⟨g,fo,args,ts,r',e1,e2,e3,e4⟩;obtain⟨k1,k2⟩:=key fo args ts e2;refine⟨g,fo,args,ts,r',e1,e2,?_,e4⟩;rw[k1,k2 g];exact e3
theorem Good.heap{q : Nat}{o : Oper}(ho : ops[q]? = some o){k : DK}{T : Nat → AV}{H H' : Heap}{v : AV}(hg : Good P z ops o k T H v)(hd : ∀ d, o.dst = some d → d ∉ looks (ops := ops) o)
   (hdst:k.isW=false→(∃d,o.dst=some d)∨∀fo args ts,o.op≠ .call ⟨.value fo,args,ts⟩)
   (hs:k= .m∨YD P z ops q (Sx.tput T o.dst v) H H'):Good P z ops o k T H' v:=by
 cases k with
 | m=>exact hg
 | w _=>exact hg
 | a _ _=>exact hg
 | q=>
   have hs:=hs.resolve_left osi;obtain⟨g,e1,e2⟩:=hg;have h1:∀d,o.dst=some d→d∉XE o.op:=fun d hd' hm=>hd d hd' (List.mem_append_left _ hm);have h2:∀d,o.dst=some d→d∉Pp (ops:=ops) o:=fun d hd' hm=>hd d hd' (List.mem_append_right _ hm);unfold YD at hs;rw[ho]at hs;simp only at hs;have hqc:∀fo args ts,o.op≠ .call ⟨.value fo,args,ts⟩∨opQ P z H g T o.op=none:=fun fo args ts=>by
     by_cases e:o.op= .call ⟨.value fo,args,ts⟩
     ·right;rw[e];rfl
     ·exact .inl e
   have fin:opQ P z H' g T o.op=opQ P z H g T o.op:=by
     split at hs
     ·rename_i fo args ts hop hgd;rw[hop];rfl
     ·exact hs.elim
     ·have:=hs g (by rw[Q8 h2];exact e1)
      rwa [Q5 h1,Q5 h1]at this
   exact⟨g,e1,by rw[fin];exact e2⟩
 | c=>
   have hs:=hs.resolve_left osi;obtain⟨g,fo,args,ts,r,e1,e2,e3,e4⟩:=hg;unfold YD at hs;rw[ho]at hs;simp only at hs;rw[e2]at hs;cases hgd:o.guard with
   | some jb=>rw[hgd]at hs;exact hs.elim
   | none=>
     rw[hgd]at hs;have eg:g=true:=by unfold gvO at e1;rw[hgd]at e1;simpa using e1.symm
     have ev:v=r:=by rw[e4];simp[putG,hgd]
     subst ev;obtain⟨d,hdd⟩:=(hdst rfl).resolve_right (fun h=>h _ _ _ e2);have h1:∀d,o.dst=some d→d∉XE o.op:=fun d hd' hm=>hd d hd' (List.mem_append_left _ hm);have:=hs d hdd;have k1:∀x∈(Op.call ⟨.value fo,args,ts⟩).operands,evO (Sx.tput T o.dst v) x=evO T x:=fun x hx=>VY h1 (by rw[e2];exact hx);simp only[Op.operands,Call.operands]at k1;have k2:(args.toList.map fun x=>strip true (evO (Sx.tput T o.dst v) x))=args.toList.map fun x=>strip true (evO T x):=List.map_congr_left fun x hx=>by rw[k1 x (by simp at hx;simp[hx])]
     rw[k1 fo osi,k2]at this;have k3:Sx.tput T o.dst v d=v:=by rw[hdd];simp[Sx.tput]
     rw[k3]at this;exact⟨g,fo,args,ts,v,e1,e2,fun _=>by rw[eg];exact this,e4⟩
theorem swap_w{i j : Nat}{oi oj : Oper}(hoi : ops[i]? = some oi)(hoj : ops[j]? = some oj){ki : DK}{inc : List Nat}(hki : ki.isW = false){I Ii : List Nat}
   (hap:Apart (ops:=ops) oi oj) (hself:∀d,oi.dst=some d→d∉looks (ops:=ops) oi) (hdst:ki= .m∨((∃d,oi.dst=some d)∨∀fo args ts,oi.op≠ .call ⟨.value fo,args,ts⟩)) (hin:ki= .m∨i∈I)
   (hI:∀q∈I,q≠i→∀o,ops[q]? =some o→∀d,oi.dst=some d→d∉looks (ops:=ops) o∧o.dst≠some d)
   {T:Nat→AV} {H:Heap} {n:Nat} {K:KT} {Q:QK} (hpan:∀p T T' H n,Q (.pan p) T H n→Q (.pan p) T' H n)
   (h:Z0 P z N ops i ki Ii T H n (fun T1 H1 n1=>Z0 P z N ops j (.w inc) I T1 H1 n1 K Q) Q):
   Z0 P z N ops j (.w inc) (I.filter (· !=i)) T H n (fun T2 H2 n2=>Z0 P z N ops i ki Ii T2 H2 n2 K Q) Q:=by
 rw[YW hoi hki]at h;obtain⟨hdi,v,hg,h⟩:=h;unfold Z0 at h ⊢;rw[hoj]at h ⊢;obtain⟨hdj,hgd,h⟩:=h;refine⟨hdj,hgd,?_⟩;have hA1:∀d,oi.dst=some d→d∉XE oj.op:=fun d hd hm=>hap.1 d hd (List.mem_append_left _ hm)
 have hfin : ∀ r H' n', ((∀ q ∈ I, YD P z ops q (Sx.tput T oi.dst v) H H') ∧ K (Sx.tput (Sx.tput T oi.dst v) oj.dst r) H' n') →
     (∀q∈I.filter (· !=i),YD P z ops q T H H')∧Z0 P z N ops i ki Ii (Sx.tput T oj.dst r) H' n' K Q:=fun r H' n' ⟨hs,V⟩=>by
   refine⟨fun q hq=> ?_,?_⟩
   ·obtain⟨hq1,hq2⟩:=List.mem_filter.1 hq;exact sameOne_tput (hI q hq1 (by simpa using hq2)) (hs q hq1)
   ·rw[YW hoi hki];refine⟨hdi,v,?_,?_⟩
    ·rw[Good.tput hap.2.1];refine Good.heap hoi hg hself (fun _=> ?_) (hin.imp id fun hi=>hs i hi);rcases hdst with e | e
     ·subst e;obtain⟨g,x,_,ex,_⟩:=hg;exact .inr fun fo args ts e=>by rw[ex]at e;simp at e
     ·exact e
    ·rw[VG _ _ _ (fun d hd e=>hap.2.2 d e hd)];exact V
 exact(h.congr fun x hx=>(VY hA1 hx).symm).mono fun r H' n' hr=>by cases r with | val r=>exact hfin r H' n' hr | pan p=>exact hpan _ _ _ _ _ hr
theorem swap_q{i j : Nat}{oi oj : Oper}(hoi : ops[i]? = some oi)(hoj : ops[j]? = some oj){ki kj : DK}(hki : ki.isW = false)(hkj : kj.isW = false){I Ii : List Nat}
   (hap:Apart (ops:=ops) oi oj)
   {T:Nat→AV} {H:Heap} {n:Nat} {K:KT} {Q:QK}
   (h:Z0 P z N ops i ki Ii T H n (fun T1 H1 n1=>Z0 P z N ops j kj I T1 H1 n1 K Q) Q):
   Z0 P z N ops j kj I T H n (fun T2 H2 n2=>Z0 P z N ops i ki Ii T2 H2 n2 K Q) Q:=by
 rw[YW hoi hki]at h;obtain⟨hdi,v,hg,h⟩:=h;rw[YW hoj hkj]at h ⊢;obtain⟨hdj,u,hgj,h⟩:=h;rw[Good.tput hap.1]at hgj;refine⟨hdj,u,hgj,?_⟩;rw[YW hoi hki];refine⟨hdi,v,?_,?_⟩
 ·rw[Good.tput hap.2.1];exact hg
 ·rw[VG _ _ _ (fun d hd e=>hap.2.2 d e hd)];exact h
theorem swap_m{i j : Nat}{oi oj : Oper}(hoi : ops[i]? = some oi)(hoj : ops[j]? = some oj){inc : List Nat}{I Ii : List Nat}
   (hap:Apart (ops:=ops) oi oj) {x:Operand} (hm:oj.op= .move x) (hgd:oj.guard=none) (hdj:dOK N oj.dst)
   (hI:∀q∈Ii,∀o,ops[q]? =some o→∀d,oj.dst=some d→d∉looks (ops:=ops) o∧o.dst≠some d)
   {T:Nat→AV} {H:Heap} {n:Nat} {K:KT} {Q:QK} (hpan:∀p T T' H n,Q (.pan p) T H n→Q (.pan p) T' H n)
   (h:Z0 P z N ops i (.w inc) Ii T H n (fun T1 H1 n1=>Z0 P z N ops j .m I T1 H1 n1 K Q) Q):
   Z0 P z N ops j .m I T H n (fun T2 H2 n2=>Z0 P z N ops i (.w inc) Ii T2 H2 n2 K Q) Q:=by
 rw[YW hoj rfl];have hgj:∀T H,Good P z ops oj .m T H (putG oj true (strip true (evO T x))):=fun T H=>⟨true,x,by simp[gvO,hgd],hm,rfl⟩;have hput:∀v,putG oj true v=v:=fun v=>by simp[putG,hgd]
 refine⟨hdj,_,hgj T H,?_⟩;rw[hput];unfold Z0 at h ⊢;rw[hoi]at h ⊢;obtain⟨hdi,hgi,h⟩:=h;refine⟨hdi,hgi,?_⟩;have hA1:∀d,oj.dst=some d→d∉XE oi.op:=fun d hd hm=>hap.2.1 d hd (List.mem_append_left _ hm)
 have hfin : ∀ r H' n', ((∀ q ∈ Ii, YD P z ops q T H H') ∧ Z0 P z N ops j .m I (Sx.tput T oi.dst r) H' n' K Q) →
     (∀q∈Ii,YD P z ops q (Sx.tput T oj.dst (strip true (evO T x))) H H')∧K (Sx.tput (Sx.tput T oj.dst (strip true (evO T x))) oi.dst r) H' n':=fun r H' n' ⟨hs,V⟩=>by
   refine⟨fun q hq=>(WN (hI q hq)).2 (hs q hq),?_⟩;rw[YW hoj rfl]at V;obtain⟨_,v,hv,V⟩:=V;obtain⟨g,x',e1,e2,e3⟩:=hv;have eg:g=true:=by unfold gvO at e1;rw[hgd]at e1;simpa using e1.symm
   rw[hm]at e2;cases e2;subst eg;rw[hput]at e3;have hx:evO (Sx.tput T oi.dst r) x=evO T x:=PE fun d hd e=>hap.1 d hd (List.mem_append_left _ (by rw[hm];exact Kh (by simp[Op.operands,e])));rw[hx]at e3;subst e3;rw[VG _ _ _ hap.2.2]at V;exact V
 exact(h.congr fun x hx=>VY hA1 hx).mono fun r H' n' hr=>by cases r with | val r=>exact hfin r H' n' hr | pan p=>exact hpan _ _ _ _ _ hr
theorem VP{q:Nat}{T:Nat→AV}{dst:Option Tmp}{r:AV}{H:Heap}(h:∀o,ops[q]? =some o→∀d,dst=some d→d∉looks (ops:=ops) o∧o.dst≠some d):
 sameA P z ops q (tput T dst r) H↔sameA P z ops q T H:=forall_congr' fun _=>forall_congr' fun _=>WN h
theorem KM{H : Heap}{key n : Nat}{T : Nat → AV}{op : Op}{C : Prop}{r : AV}{H' : Heap}{n' : Nat}(h : opA P z H key n T op = some (C, r, H', n')):
   ∃e o,H key=some (.arr 0 e [])∧KJ P z key T op=some (C,r,o)∧H'=H.put key (some o)∧n'=n:=by
 unfold opA opAO at h;split at h
 ·rename_i e C' r' o h1 h2;simp only[Option.some.injEq,Prod.mk.injEq]at h;obtain⟨rfl,rfl,rfl,rfl⟩:=h;exact⟨e,o,h1,h2,rfl,rfl⟩
 ·simp at h
theorem opA_mk{H:Heap}{key n:Nat}{T:Nat→AV}{op:Op}{e:Nat}{C:Prop}{r:AV}{o:AObj}(h:H key=some (.arr 0 e []))(ho:KJ P z key T op=some (C,r,o)):opA P z H key n T op=some (C,r,H.put key (some o),n):=by
 simp only[opA,h,ho,opAO]
theorem opNew_ver{key:Nat}{T:Nat→AV}{op:Op}{C:Prop}{r:AV}{o:AObj}(ho:KJ P z key T op=some (C,r,o))(e:Nat):o≠ .arr 0 e []:=by
 unfold KJ at ho;split at ho
 ·simp only[Option.some.injEq,Prod.mk.injEq]at ho;rw[←ho.2.2];simp
 ·unfold newMk at ho;split at ho
  ·simp only[Option.some.injEq,Prod.mk.injEq]at ho;rw[←ho.2.2];simp
  ·simp at ho
 ·simp at ho
theorem opNew_tput{key:Nat}{T:Nat→AV}{dst:Option Tmp}{r:AV}{op:Op}(h:∀d,dst=some d→d∉XE op):KJ P z key (tput T dst r) op=KJ P z key T op:=by
 have e:∀x∈op.operands,evO (tput T dst r) x=evO T x:=fun x hx=>VY h hx;unfold KJ;split<;>simp only[Op.operands]at e
 ·rfl
 ·rename_i t x y;rw[e x osi,e y osi]
 ·rfl
theorem KL{H:Heap}{key n:Nat}{T:Nat→AV}{dst:Option Tmp}{r:AV}{op:Op}(h:∀d,dst=some d→d∉XE op):opA P z H key n (tput T dst r) op=opA P z H key n T op:=by
 unfold opA;rw[opNew_tput h]
theorem Js.put{H:Heap}{k e:Nat}{o:AObj}(h:H k=some (.arr 0 e [])):Js H (H.put k (some o)):=fun j=>by
 by_cases hj:j=k
 ·left;exact⟨e,hj▸h⟩
 ·right;exact Rk _ _ hj
theorem swap_a{i j : Nat}{oi oj : Oper}(hoi : ops[i]? = some oi)(hoj : ops[j]? = some oj){ki : DK}{key : Nat}{inc : List Nat}(hki : ki.isW = false){I Ii : List Nat}
   (hap:Apart (ops:=ops) oi oj) (hself:∀d,oi.dst=some d→d∉looks (ops:=ops) oi) (hdst:ki= .m∨((∃d,oi.dst=some d)∨∀fo args ts,oi.op≠ .call ⟨.value fo,args,ts⟩)) (hin:ki= .m∨i∈I)
   (hI:∀q∈I,q≠i→∀o,ops[q]? =some o→∀d,oi.dst=some d→d∉looks (ops:=ops) o∧o.dst≠some d)
   {T:Nat→AV} {H:Heap} {n:Nat} {K:KT} {Q:QK}
   (h:Z0 P z N ops i ki Ii T H n (fun T1 H1 n1=>Z0 P z N ops j (.a key inc) I T1 H1 n1 K Q) Q):
   Z0 P z N ops j (.a key inc) (I.filter (· !=i)) T H n (fun T2 H2 n2=>Z0 P z N ops i ki Ii T2 H2 n2 K Q) Q:=by
 rw[YW hoi hki]at h;obtain⟨hdi,v,hg,h⟩:=h;unfold Z0 at h ⊢;rw[hoj]at h ⊢;obtain⟨hdj,hgd,h⟩:=h;refine⟨hdj,hgd,?_⟩;have hA1:∀d,oi.dst=some d→d∉XE oj.op:=fun d hd hm=>hap.1 d hd (List.mem_append_left _ hm);rw[KL hA1]at h;cases hw:opA P z H key n T oj.op with
 | none=>rw[hw]at h;exact h.elim
 | some p=>
   obtain⟨C,r,H',n'⟩:=p;rw[hw]at h;obtain⟨e,o,hk,_,rfl,_⟩:=KM hw;obtain⟨hC,hs,V⟩:=h;refine⟨hC,fun q hq=> ?_,?_⟩
   ·obtain⟨hq1,hq2⟩:=List.mem_filter.1 hq;exact(VP (hI q hq1 (by simpa using hq2))).1 (hs q hq1)
   ·show Z0 P z N ops i ki Ii (Sx.tput T oj.dst r) _ n' K Q;rw[YW hoi hki];refine⟨hdi,v,?_,?_⟩
    ·rw[Good.tput hap.2.1];refine Good.heap hoi hg hself (fun _=> ?_) (hin.imp id fun hi=>hs i hi _ (Js.put hk));rcases hdst with e | e
     ·subst e;obtain⟨g,x,_,ex,_⟩:=hg;exact .inr fun fo args ts e=>by rw[ex]at e;simp at e
     ·exact e
    ·rw[VG _ _ _ (fun d hd e=>hap.2.2 d e hd)];exact V
theorem swap_ma{i j : Nat}{oi oj : Oper}(hoi : ops[i]? = some oi)(hoj : ops[j]? = some oj){key : Nat}{inc : List Nat}{I Ii : List Nat}
   (hap:Apart (ops:=ops) oi oj) {x:Operand} (hm:oj.op= .move x) (hgd:oj.guard=none) (hdj:dOK N oj.dst)
   (hI:∀q∈Ii,∀o,ops[q]? =some o→∀d,oj.dst=some d→d∉looks (ops:=ops) o∧o.dst≠some d)
   {T:Nat→AV} {H:Heap} {n:Nat} {K:KT} {Q:QK}
   (h:Z0 P z N ops i (.a key inc) Ii T H n (fun T1 H1 n1=>Z0 P z N ops j .m I T1 H1 n1 K Q) Q):
   Z0 P z N ops j .m I T H n (fun T2 H2 n2=>Z0 P z N ops i (.a key inc) Ii T2 H2 n2 K Q) Q:=by
 rw[YW hoj rfl];have hgj:∀T H,Good P z ops oj .m T H (putG oj true (strip true (evO T x))):=fun T H=>⟨true,x,by simp[gvO,hgd],hm,rfl⟩;have hput:∀v,putG oj true v=v:=fun v=>by simp[putG,hgd]
 refine⟨hdj,_,hgj T H,?_⟩;rw[hput];unfold Z0 at h ⊢;rw[hoi]at h ⊢;obtain⟨hdi,hgi,h⟩:=h;refine⟨hdi,hgi,?_⟩;have hA1:∀d,oj.dst=some d→d∉XE oi.op:=fun d hd hm=>hap.2.1 d hd (List.mem_append_left _ hm);rw[KL hA1];cases hw:opA P z H key n T oi.op with
 | none=>rw[hw]at h;exact h.elim
 | some p=>
   obtain⟨C,r,H',n'⟩:=p;rw[hw]at h;obtain⟨hC,hs,V⟩:=h;refine⟨hC,fun q hq=>(VP (hI q hq)).2 (hs q hq),?_⟩;have V:Z0 P z N ops j .m I (Sx.tput T oi.dst r) H' n' K Q:=V;rw[YW hoj rfl]at V;obtain⟨_,v,hv,V⟩:=V;obtain⟨g,x',e1,e2,e3⟩:=hv;have eg:g=true:=by unfold gvO at e1;rw[hgd]at e1;simpa using e1.symm
   rw[hm]at e2;cases e2;subst eg;rw[hput]at e3;have hx:evO (Sx.tput T oi.dst r) x=evO T x:=PE fun d hd e=>hap.1 d hd (List.mem_append_left _ (by rw[hm];exact Kh (by simp[Op.operands,e])));rw[hx]at e3;subst e3;rw[VG _ _ _ hap.2.2]at V;exact V
theorem sameOne_trans{q:Nat}{T:Nat→AV}{H H1 H2:Heap}(h1:YD P z ops q T H H1)(h2:YD P z ops q T H H2):YD P z ops q T H1 H2:=by
 unfold YD at h1 h2 ⊢;split
 ·trivial
 ·rename_i o ho;rw[ho]at h1 h2;simp only at h1 h2;split
  ·rename_i fo args ts e1 e2;rw[e1,e2]at h2;exact h2
  ·rename_i e1 e2;rw[e1,e2]at h1;exact h1
  ·rename_i x1 x2;split at h1
   ·rename_i fo args ts e1 e2;exact(x1 _ _ _ e1 e2).elim
   ·rename_i fo args ts jb e1 e2;exact(x2 _ _ _ _ e1 e2).elim
   ·split at h2
    ·rename_i fo args ts e1 e2;exact(x1 _ _ _ e1 e2).elim
    ·rename_i fo args ts jb e1 e2;exact(x2 _ _ _ _ e1 e2).elim
    ·intro g hg;exact(h2 g hg).trans (h1 g hg).symm
theorem swap_aa{i j : Nat}{oi oj : Oper}(hoi : ops[i]? = some oi)(hoj : ops[j]? = some oj){ki kj : Nat}{inci incj : List Nat}{I Ii : List Nat}
   (hap:Apart (ops:=ops) oi oj) (hsub:∀q∈I,q≠i→q∈Ii)
   (hI:∀q∈Ii,∀o,ops[q]? =some o→∀d,oj.dst=some d→d∉looks (ops:=ops) o∧o.dst≠some d)
   {T:Nat→AV} {H:Heap} {n:Nat} {K:KT} {Q:QK}
   (h:Z0 P z N ops i (.a ki inci) Ii T H n (fun T1 H1 n1=>Z0 P z N ops j (.a kj incj) I T1 H1 n1 K Q) Q):
   Z0 P z N ops j (.a kj incj) (I.filter (· !=i)) T H n (fun T2 H2 n2=>Z0 P z N ops i (.a ki inci) Ii T2 H2 n2 K Q) Q:=by
 have hA1:∀d,oi.dst=some d→d∉XE oj.op:=fun d hd hm=>hap.1 d hd (List.mem_append_left _ hm);have hA2:∀d,oj.dst=some d→d∉XE oi.op:=fun d hd hm=>hap.2.1 d hd (List.mem_append_left _ hm);unfold Z0 at h ⊢;rw[hoi]at h;rw[hoj];simp only at h ⊢;obtain⟨hdi,hgi,h⟩:=h;cases hw:opA P z H ki n T oi.op with
 | none=>rw[hw]at h;exact h.elim
 | some p=>
   obtain⟨C,r,H1,n1⟩:=p;rw[hw]at h;obtain⟨ei,ob,hki,hni,rfl,rfl⟩:=KM hw;obtain⟨hC,hs,h⟩:=h;have h':Z0 P z N ops j (.a kj incj) I (Sx.tput T oi.dst r) (H.put ki (some ob)) n1 K Q:=h;clear h;unfold Z0 at h';rw[hoj]at h';obtain⟨hdj,hgj,h⟩:=h';rw[KL hA1]at h;cases hw2:opA P z (H.put ki (some ob)) kj n1 T oj.op with
   | none=>rw[hw2]at h;exact h.elim
   | some p=>
     obtain⟨C2,r2,H2,n2⟩:=p;rw[hw2]at h;obtain⟨ej,ob2,hkj,hnj,rfl,rfl⟩:=KM hw2;obtain⟨hC2,_,V⟩:=h;have hne:kj≠ki:=fun e=>by
       subst e;rw[Rm]at hkj;exact opNew_ver hni ej (Option.some.inj hkj)
     rw[Rk _ _ hne]at hkj;refine⟨hdj,hgj,?_⟩;rw[opA_mk hkj hnj];refine⟨hC2,fun q hq=> ?_,?_⟩
     ·obtain⟨hq1,hq2⟩:=List.mem_filter.1 hq;exact hs q (hsub q hq1 (by simpa using hq2))
     ·show Z0 P z N ops i (.a ki inci) Ii (Sx.tput T oj.dst r2) (H.put kj (some ob2)) n2 K Q;unfold Z0;rw[hoi];refine⟨hdi,hgi,?_⟩;have hki':(H.put kj (some ob2)) ki=some (.arr 0 ei []):=by rw[Rk _ _ (Ne.symm hne)];exact hki
      rw[KL hA2,opA_mk hki' hni];refine⟨hC,fun q hq=> ?_,?_⟩
      ·refine(VP (hI q hq)).2 fun H3 hag=> ?_;refine sameOne_trans (H:=H) (hs q hq _ (Js.put hkj)) (hs q hq _ fun k=> ?_);by_cases hk:k=kj
       ·subst hk;left;exact⟨ej,hkj⟩
       ·rcases hag k with⟨e,h1⟩ | h1
        ·rw[Rk _ _ hk]at h1;left;exact⟨e,h1⟩
        ·rw[Rk _ _ hk]at h1;right;exact h1
      ·rw[VG _ _ _ (fun d hd e=>hap.2.2 d e hd)];have eH:(H.put kj (some ob2)).put ki (some ob)=(H.put ki (some ob)).put kj (some ob2):=by
         funext k;simp only[Heap.put];by_cases h1:k=ki
         ·have:k≠kj:=fun e=>hne (e▸h1);simp[h1,Ne.symm hne]
         ·by_cases h2:k=kj<;>simp[h1,h2,hne]
       rw[eH];exact V
end
def ZZ(o:Oper):List Nat:=(o.after.toList.filter fun e=>Region.binds .any e).map (·.on)
def ancs:List Nat→List Oper→List Nat
 | acc,[]=>acc
 | acc,o::os=>ancs (acc++[(ZZ o).foldl (fun m e=>m ||| (1 <<< e) ||| acc.getD e 0) 0]) os
def YC(b:List Nat)(p i:Nat):Bool:=(b.getD i 0).testBit p
theorem Pq(acc:List Nat):∀(l:List Nat) (m p:Nat),(l.foldl (fun m e=>m ||| (1 <<< e) ||| acc.getD e 0) m).testBit p=true→m.testBit p=true∨∃e∈l,p=e∨(acc.getD e 0).testBit p=true
 | [],m,p,h=> .inl h
 | e::l,m,p,h=>by
   rcases Pq acc l _ p h with h | ⟨e',he,h⟩
   ·rw[Nat.testBit_or,Nat.testBit_or,Bool.or_eq_true,Bool.or_eq_true]at h;rcases h with(h | h) | h
    ·exact .inl h
    ·right;refine⟨e,osi,.inl ?_⟩;rw[Nat.testBit_shiftLeft]at h;simp at h;have h2:p-e=0:=by
       rcases Nat.eq_zero_or_pos (p-e)with h0 | h0
       ·exact h0
       ·have:=h.2;rw[Nat.testBit_one_eq_true_iff_self_eq_zero]at this;omega
     omega
    ·exact .inr ⟨e,osi,.inr h⟩
   ·exact .inr ⟨e',by simp[he],h⟩
theorem Rc:∀(os:List Oper) (acc:List Nat) (i:Nat),i<acc.length→(ancs acc os).getD i 0=acc.getD i 0
 | [],acc,i,h=>rfl
 | o::os,acc,i,h=>by
   unfold ancs;rw[Rc os _ i oz];simp[List.getD,List.getElem?_append_left h]
theorem JO : ∀ (os : List Oper) (acc : List Nat) (i : Nat) (o : Oper), os[i]? = some o → (∀ e ∈ ZZ o, e < acc.length + i) → ∀ p, ((ancs acc os).getD (acc.length + i) 0).testBit p = true →
   ∃e∈ZZ o,p=e∨((ancs acc os).getD e 0).testBit p=true
 | [],acc,i,o,h,_,p,_=>by simp at h
 | o'::os,acc,0,o,h,he,p,hp=>by
   simp at h;subst h;have e0:(ancs acc (o'::os)).getD (acc.length+0) 0=(ZZ o').foldl (fun m e=>m ||| (1 <<< e) ||| acc.getD e 0) 0:=by
     unfold ancs;rw[Rc os _ _ osi];simp[List.getD]
   rw[e0]at hp;rcases Pq acc _ _ _ hp with h | ⟨e,hee,h⟩
   ·simp at h
   ·refine⟨e,hee,h.imp id fun h=> ?_⟩;have:=he e hee;unfold ancs;rw[Rc os _ e oz];rw[show(acc++[List.foldl (fun m e=>m ||| 1 <<< e ||| acc.getD e 0) 0 (ZZ o')]).getD e 0=acc.getD e 0 by simp[List.getD,List.getElem?_append_left (show e<acc.length by omega)]];exact h
 | o'::os,acc,i+1,o,h,he,p,hp=>by
   simp at h
   have:=JO os (acc++[(ZZ o').foldl (fun m e=>m ||| (1 <<< e) ||| acc.getD e 0) 0]) i o h (fun e hee=>by have:=he e hee;simp;omega) p
     (by simp only[qe,qi,List.length_nil];rw[show acc.length+(0+1)+i=acc.length+(i+1) by omega];exact hp)
   exact this
def disj(a b:List Nat):Bool:=a.all fun x=> !b.contains x
section
variable (ops:Array Oper)
def WX(l:List Oper)(o:Oper):List Tmp:=
 XE o.op++(match o.guard with | some (j,_)=>((l[j]?).bind (·.dst)).toList | none=>[])
theorem VH(o:Oper):WX ops.toList o=looks (ops:=ops) o:=by
 unfold WX looks Pp gtmp;cases o.guard with
 | none=>rfl
 | some jb=>obtain⟨j,b⟩:=jb;simp
def JE:Op→Bool
 | .call ⟨.value _,_,_⟩=>true
 | _=>false
def isMove:Op→Bool
 | .move _=>true
 | _=>false
def apartB(l:List Oper)(o o':Oper):Bool:=
 disj o.dst.toList (WX l o')&&disj o'.dst.toList (WX l o)&&disj o.dst.toList o'.dst.toList
def pairB(l:List Oper)(N i j:Nat)(oi oj:Oper)(ki kj:DK):Bool:=
 apartB l oi oj&&
 match ki,kj with
 | .w _,.m=>isMove oj.op&&oj.guard.isNone&&(match oj.dst with | some d=>decide (d<N) | none=>true)&&disj oj.dst.toList (ki.inc.flatMap fun q=>match l[q]? with | some o=>WX l o++o.dst.toList | none=>[])
 | .a _ _,.m=>isMove oj.op&&oj.guard.isNone&&(match oj.dst with | some d=>decide (d<N) | none=>true)&&disj oj.dst.toList (ki.inc.flatMap fun q=>match l[q]? with | some o=>WX l o++o.dst.toList | none=>[])
 | .w _,_=>false
 | .a _ _,_=>false
 | .m,_=>true
 | _,.w inc=>inc.contains i&&(oi.dst.isSome|| !JE oi.op)
 | _,.a _ inc=>inc.contains i&&(oi.dst.isSome|| !JE oi.op)
 | _,_=>true
def selfB(l:List Oper)(o:Oper):Bool:=disj o.dst.toList (WX l o)
end
theorem UY{a b:List Nat}(h:disj a b=true){x:Nat}(hx:x∈a):x∉b:=by
 unfold disj at h;have:=List.all_eq_true.1 h x hx;simpa using this
theorem apartB_spec{ops:Array Oper}{o o':Oper}(h:apartB ops.toList o o'=true):Apart (ops:=ops) o o':=by
 unfold apartB at h;simp only[Bool.and_eq_true]at h;refine⟨fun d hd=> ?_,fun d hd=> ?_,fun d hd e=> ?_⟩
 ·rw[←VH];exact UY h.1.1 (by simp[hd])
 ·rw[←VH];exact UY h.1.2 (by simp[hd])
 ·exact UY h.2 (x:=d) (by simp[hd]) (by simp[e])
section
variable {P:Program}{z:TypeId→AV}{N:Nat}{ops:Array Oper}
def Jp(ops:Array Oper)(N:Nat)(i:Nat)(ki:DK)(j:Nat)(kj:DK):Prop:=
 ∃oi oj,ops[i]? =some oi∧ops[j]? =some oj∧Apart (ops:=ops) oi oj∧
   ((ki.isW=false∧kj.isW=false)∨
    (ki.isW=false∧kj.isW=true∧(∀d,oi.dst=some d→d∉looks (ops:=ops) oi)∧(ki= .m∨((∃d,oi.dst=some d)∨∀fo args ts,oi.op≠ .call ⟨.value fo,args,ts⟩)))∨
    (ki.isW=true∧kj= .m∧(∃x,oj.op= .move x)∧oj.guard=none∧dOK N oj.dst∧∀q∈ki.inc,∀o,ops[q]? =some o→∀d,oj.dst=some d→d∉looks (ops:=ops) o∧o.dst≠some d))
def Uc(ops:Array Oper)(p q:Nat):Prop:=∀op oq,ops[p]? =some op→ops[q]? =some oq→∀d,op.dst=some d→d∉looks (ops:=ops) oq∧oq.dst≠some d
theorem Step.newAt{c : Ctx}{H : Heap}{n : Nat}{w : World}(hs : Sim c H n w){key e0 : Nat}(hk : H key = some (.arr 0 e0 []))(arr : Array Value)(ty : TypeId)(cap esz : Nat)(els : List AV)(ds : List Value)
   (hz:∀x∈els,x.sz=esz) (hcap:els.length≤cap) (hsz:arr.size=cap*esz) (hr:RelF c els ds) (ha:At arr 0 ds):
   Step c H w (c.addLoc key 1 (.blk w.heap.size cap esz)) (H.put key (some (.arr 1 esz els))) n (w.alloc (.cells arr ty)):=by
 have hkn:key<n:=by
   rcases Nat.lt_or_ge key n with h | h
   ·exact h
   ·have:=(hs.fresh key h).1;rw[hk]at this;simp at this
 have hv1:c.ρ key 1=none:=hs.vers key _ 1 hk (by simp[AObj.ver]);refine Step.renew (n':=n) hs key (.arr 1 esz els) (.blk w.heap.size cap esz) (Nat.le_refl _) hkn hv1 (fun v hv=>hs.vers key _ v hk (by simp[AObj.ver]at hv ⊢;omega)) (.alloc _ _ _) ?_ ?_ ?_ ?_
 ·intro k' o' b _ hk' hb;have:=(hs.own k' o' hk').lt hb;show(w.heap.push _)[b]? =_;rw[Array.getElem?_push,if_neg om]
 ·intro b a hb;obtain⟨ty,fr,hx⟩:=hs.ro b a hb;have:b<w.heap.size:=by
    exact kaX
  show(w.heap.push _)[b]? =_;rw[Array.getElem?_push,if_neg om]
 ·simp only[ZR];refine⟨_,Rn,rfl,hz,hcap,arr,ty,ds,?_,hsz,RelF.mono (Rx hv1) _ _ hr,ha⟩;show(w.heap.push _)[w.heap.size]? =_;simp
 ·intro b cap' e' h;simp only[Loc.blk.injEq]at h;obtain⟨rfl,_,_⟩:=h;refine⟨?_,.inl (Nat.le_refl _)⟩;cases hr:c.ro w.heap.size with
  | none=>rfl
  | some a=>
    obtain⟨ty,fr,hx⟩:=hs.ro _ a hr;rw[Array.getElem?_eq_none (Nat.le_refl _)]at hx;simp at hx
theorem opA_sound{H : Heap}{key n : Nat}{T : Nat → AV}{dst : Option Tmp}{op : Op}{ty : TypeId}{pos : String}{after : Array Edge}{guard : Option (Nat × Bool)}{C : Prop}{r : AV}{H' : Heap}{n' : Nat}{K : ARes → Heap → Nat → Prop}
   (h:opA P z H key n T op=some (C,r,H',n')) (hC:C) (V:K (.val r) H' n'):OpT P ⟨dst,op,ty,pos,after,guard⟩ (evO T) H n K:=by
 obtain⟨e0,o,hk,ho,rfl,rfl⟩:=KM h;refine OpT.of_run fun c w ρv hs hr=> ?_;unfold KJ at ho;split at ho
 ·rename_i t;simp only[Option.some.injEq,Prod.mk.injEq]at ho;obtain⟨rfl,rfl,rfl⟩:=ho;obtain⟨hm,i,v,hi,hv,hz⟩:=hC;obtain⟨hm,hsz,ho⟩:=XN (hz c) hm;refine⟨_,.pointer (some ⟨w.heap.size,0,none⟩),_,_,_,w.alloc (.cells v.cells t),.inl (by simp[execOp,Instr.alloc,zeroValue,typeInfo,hi,hv,newVar,newRow]),
    Step.newAt hs hk v.cells t 1 (z t).sz [z t] _ osi osi (by simp[hsz]) (by simp only[RelF];exact⟨_,[],osi,hm,rfl⟩) (At.self rfl),?_,V⟩
  simp only[Rel];exact⟨_,_,_,Rn,rfl⟩
 ·rename_i t x y;have hx:=hr x (by simp[Op.operands]);have hy:=hr y (by simp[Op.operands]);generalize evO T x=a at ho hx;generalize evO T y=b at ho hy;unfold newMk at ho;split at ho
  ·rename_i e s by' k1 l k2 m he hel
   simp only[Option.some.injEq,Prod.mk.injEq]at ho;obtain⟨rfl,rfl,rfl⟩:=ho;obtain⟨c1,c2,c3,c4,c5,hm,i,v,hi,hv,hz⟩:=hC;obtain⟨e2,i2,v2,hu,hi2,hv2,hvs,hpos,hsz2,hby⟩:=UO hel;have hu1:=tElT_spec he;rw[hu1]at hu;cases hu;rw[hi]at hi2;cases hi2;rw[hv]at hv2;cases hv2;obtain⟨hcm,hsz,ho⟩:=XN (hz c) hm;simp only[Rel,List.cons.injEq,and_true]at hx hy;have hrun:=run_make (P:=P) w t e i v hu1 hi hv k1 k2 l m c1 c2 (by rw[hby];exact c3) c4;refine⟨_,.slice (some ⟨w.heap.size,0,none⟩) l.toNat m.toNat,_,_,_,w.alloc (.cells (madeCells v.cells (m.toNat*i.size)) e),.inl (by simp[execOp,hx,hy,hrun]),
     Step.newAt hs hk (madeCells v.cells (m.toNat*i.size)) e m.toNat s (List.replicate m.toNat (z e)) _ (fun y hy=>by rw[(List.mem_replicate.1 hy).2,c5]) osi (by rw[size_madeCells,hsz2]) (LH hvs hcm _) (At.self rfl),?_,V⟩
   simp only[Rel];refine⟨_,Rn,m.toNat,0,om,om,osi,rfl⟩
  ·simp at ho
 ·simp at ho
theorem dstep_sound{i : Nat}{k : DK}{I : List Nat}{T : Nat → AV}{H : Heap}{n : Nat}{K : KT}{Q : QK}
   (h:Z0 P z N ops i k I T H n K Q) {ds:List Deferred} {c0:Ctx} {H0:Heap} {w0:World} {c:Ctx} {w:World} {a:Act} (hst:Step c0 H0 w0 c H n w) (hr:ZJ c T a.tmps) (hN:a.tmps.size=N) (hd:a.defers=ds)
   {next:Act→World→Prop} (hnext:∀T' c' H' n' a' w',K T' H' n'→Step c0 H0 w0 c' H' n' w'→ZJ c' T' a'.tmps→a'.tmps.size=N→a'.defers=ds→next a' w'):
   wpOp P ops (Jt N ds c0 H0 w0 Q) i next a w:=by
 unfold Z0 at h;unfold wpOp;split at h
 ·exact h.elim
 ·rename_i o ho;rw[ho];simp only;obtain⟨hdst,h⟩:=h;have hd':∀d,o.dst=some d→d<a.tmps.size:=fun d hd2=>by rw[hd2]at hdst;rw[hN];exact hdst
  have hε:∀x∈o.op.operands,Rel c (evO T x) false [a.eval x]:=fun x _=>Wy hr x;have hgv:∀g,gvO ops T o=some g→Region.wanted o (yielded ops a.tmps)=g:=fun g hg=>by
    unfold gvO at hg;cases hgd:o.guard with
    | none=>rw[hgd]at hg;simp at hg;subst hg;exact YT hgd
    | some jb=>
      obtain⟨j,b⟩:=jb;rw[hgd]at hg;simp only at hg;cases ht:gtmp ops j with
      | none=>rw[ht]at hg;simp at hg
      | some t=>rw[ht]at hg;exact L8 hr hgd ht (by simpa using hg)
  have skip:∀r,K (tput T o.dst (putG o false r)) H n→gvO ops T o=some false→next (a.put o.dst undef) w:=fun r V hg=>by
    refine hnext _ c H n _ w V hst ?_ (by rw[Wt,hN]) (by rw[Y4,hd]);refine Wn hr ?_ hd';unfold putG;cases hgd:o.guard with
    | none=>unfold gvO at hg;rw[hgd]at hg;simp at hg
    | some _=>simp[Rel]
  have put_true:∀c' r v,Rel c' r false [v]→Rel c' (putG o true r) false [v]:=fun c' r v h=>by
    unfold putG;cases o.guard with
    | none=>exact h
    | some _=>exact KH rfl h
  have doQ:∀r,QT P o.op T H r→K (tput T o.dst (putG o true r)) H n→o.wp P a w next (Jt N ds c0 H0 w0 Q):=fun r hq V=>by
    refine RH (n:=n) (K:=fun res H' n'=>res= .val r∧H'=H∧n'=n) hq ⟨rfl,rfl,rfl⟩ c w a hst.sim hε _ _ ?_ ?_
    ·rintro r' v c' H' n' w' ⟨e1,rfl,rfl⟩ hst' hrel;cases e1;exact hnext _ c' _ _ _ w' V (hst.trans hst') (Wn (ZJ.mono hst'.le hr) (put_true _ _ _ hrel) hd') (by rw[Wt,hN]) (by rw[Y4,hd])
    ·rintro p v c' H' n' w' ⟨e1,_,_⟩;cases e1
  cases k with
  | m=>
    simp only at h;cases hg:gvO ops T o with
    | none=>rw[hg]at h;exact h.elim
    | some g=>
      rw[hg]at h;simp only[Z7]at h;split at h
      ·rename_i x ex;cases g with
       | true=>
         rw[if_pos (hgv true hg)];left;exact doQ _ (by rw[ex];exact Rq rfl qs_move) h
       | false=>
         rw[if_neg (by simp[hgv false hg])];exact skip _ h hg
      ·exact h.elim
  | q=>
    simp only at h;cases hg:gvO ops T o with
    | none=>rw[hg]at h;exact h.elim
    | some g=>
      rw[hg]at h;simp only[Z7]at h;cases hq:opQ P z H g T o.op with
      | none=>
        rw[hq]at h;obtain⟨rfl,h⟩:=h;rw[if_neg (by simp[hgv false hg])];exact skip _ h hg
      | some p=>
        obtain⟨C,r⟩:=p;rw[hq]at h;cases g with
        | true=>
          rw[if_pos (hgv true hg)];left;exact doQ _ (WT hq rfl (h.1 rfl)) h.2
        | false=>
          rw[if_neg (by simp[hgv false hg])];exact skip _ h.2 hg
  | c=>
    simp only at h;split at h
    ·rename_i fo args ts ex;cases hg:gvO ops T o with
     | none=>rw[hg]at h;exact h.elim
     | some g=>
       rw[hg]at h;obtain⟨r,h1,h2⟩:=h;cases g with
       | true=>
         rw[if_pos (hgv true hg)];left;have hcall:=OpT.call (P:=P) (dst:=o.dst) (ty:=o.type) (pos:=o.pos) (after:=o.after) (guard:=o.guard) (ts:=ts) (ε:=fun x=>strip true (evO T x)) (h1 rfl n);have eo:(⟨o.dst,.call ⟨.value fo,args,ts⟩,o.type,o.pos,o.after,o.guard⟩:Oper)=o:=by rw[←ex]
         rw[eo]at hcall;refine hcall c w a hst.sim (fun x hx=>UQ rfl (hε x hx)) _ _ ?_ ?_
         ·rintro r' v c' H' n' w' ⟨rfl,rfl,rfl⟩ hst' hrel;exact hnext _ c' _ _ _ w' h2 (hst.trans hst') (Wn (ZJ.mono hst'.le hr) (put_true _ _ _ hrel) hd') (by rw[Wt,hN]) (by rw[Y4,hd])
         ·intro p v c' H' n' w' hf;exact hf.elim
       | false=>
         rw[if_neg (by simp[hgv false hg])];exact skip _ h2 hg
    ·exact h.elim
  | w inc=>
    obtain⟨hgd,h⟩:=h;rw[if_pos (YT hgd)];left;refine h c w a hst.sim hε _ _ ?_ ?_
    ·rintro r v c' H' n' w' ⟨_,V⟩ hst' hrel;exact hnext _ c' _ _ _ w' V (hst.trans hst') (Wn (ZJ.mono hst'.le hr) hrel hd') (by rw[Wt,hN]) (by rw[Y4,hd])
    ·intro p v c' H' n' w' hq hst' hrel;exact⟨.pan p,c',T,H',n',hq,⟨v,rfl,hrel⟩,hst.trans hst',ZJ.mono hst'.le hr,hN,hd⟩
  | a key inc=>
    obtain⟨hgd,h⟩:=h;rw[if_pos (YT hgd)];left;cases hw:opA P z H key n T o.op with
    | none=>rw[hw]at h;exact h.elim
    | some p=>
      obtain⟨C,r,H',n'⟩:=p;rw[hw]at h;obtain⟨hC,_,V⟩:=h;have eo:(⟨o.dst,o.op,o.type,o.pos,o.after,o.guard⟩:Oper)=o:=rfl;have hop:=opA_sound (dst:=o.dst) (ty:=o.type) (pos:=o.pos) (after:=o.after) (guard:=o.guard) (K:=fun res H2 n2=>res= .val r∧H2=H'∧n2=n') hw hC ⟨rfl,rfl,rfl⟩;rw[eo]at hop;refine hop c w a hst.sim hε _ _ ?_ ?_
      ·rintro r' v c' H2 n2 w' ⟨e1,rfl,rfl⟩ hst' hrel;cases e1;exact hnext _ c' _ _ _ w' V (hst.trans hst') (Wn (ZJ.mono hst'.le hr) hrel hd') (by rw[Wt,hN]) (by rw[Y4,hd])
      ·rintro p v c' H' n' w' ⟨e1,_,_⟩;cases e1
structure Checked(ops:Array Oper)(N:Nat)(ks:List DK):Prop where
 len:ks.length=ops.size
 edges:∀i o,ops[i]? =some o→∀e∈ZZ o,e<i
 pair:∀i j ki kj,i<j→ks[i]? =some ki→ks[j]? =some kj→YC (ancs [] ops.toList) i j=false→Jp ops N i ki j kj∧(kj.isW=true→ki= .m∨i∈kj.inc)
 inc:∀j kj,ks[j]? =some kj→∀q∈kj.inc,q<j∧∀p,p<j→p≠q→YC (ancs [] ops.toList) p q=false→Uc ops p q
theorem WL{α:Type}(l:List α)(i:Nat)(x:α)(h:l[i]? =some x):(x,i)∈l.zipIdx:=by
 rw[List.mem_zipIdx_iff_getElem?];exact h
def item(ks:List DK)(i:Nat):Nat×DK×List Nat:=(i,ks.getD i .m,(ks.getD i .m).inc)
def rest(ops:Array Oper)(listed:Array Bool):List Nat:=(List.range ops.size).filter fun i=> !listed.getD i true
end
section
variable (P:Program)(z:TypeId→AV)(N:Nat)(ops:Array Oper)(T:Nat→AV)(H:Heap)(n:Nat)(Q:QK)(dst:Option Tmp)(ty:TypeId)(pos:String)(after:Array Edge)(os:List Oper)(j:Nat)(bb:Bool)
theorem er_move(x:Operand):erun P z N ops (⟨dst,.move x,ty,pos,after,none⟩::os) T H n Q=(dOK N dst∧cont (opQ P z H true T (.move x)) fun r=>erun P z N ops os (tput T dst r) H n Q):=rfl
theorem erg_move(x:Operand):erun P z N ops (⟨dst,.move x,ty,pos,after,some (j,bb)⟩::os) T H n Q=(dOK N dst∧Z7 ((gtmp ops j).bind fun t=>gval (T t) bb) fun g=>Xb g (opQ P z H g T (.move x)) fun r=>erun P z N ops os (tput T dst r) H n Q):=rfl
theorem er_assign(x:Operand):erun P z N ops (⟨dst,.assign x,ty,pos,after,none⟩::os) T H n Q=(dOK N dst∧cont (opQ P z H true T (.assign x)) fun r=>erun P z N ops os (tput T dst r) H n Q):=rfl
theorem erg_assign(x:Operand):erun P z N ops (⟨dst,.assign x,ty,pos,after,some (j,bb)⟩::os) T H n Q=(dOK N dst∧Z7 ((gtmp ops j).bind fun t=>gval (T t) bb) fun g=>Xb g (opQ P z H g T (.assign x)) fun r=>erun P z N ops os (tput T dst r) H n Q):=rfl
theorem er_pick(c a b:Operand):erun P z N ops (⟨dst,.pick c a b,ty,pos,after,none⟩::os) T H n Q=(dOK N dst∧cont (opQ P z H true T (.pick c a b)) fun r=>erun P z N ops os (tput T dst r) H n Q):=rfl
theorem erg_pick(c a b:Operand):erun P z N ops (⟨dst,.pick c a b,ty,pos,after,some (j,bb)⟩::os) T H n Q=(dOK N dst∧Z7 ((gtmp ops j).bind fun t=>gval (T t) bb) fun g=>Xb g (opQ P z H g T (.pick c a b)) fun r=>erun P z N ops os (tput T dst r) H n Q):=rfl
theorem er_fieldAddr(t:TypeId)(x:Operand)(f:Nat):erun P z N ops (⟨dst,.fieldAddr t x f,ty,pos,after,none⟩::os) T H n Q=(dOK N dst∧cont (opQ P z H true T (.fieldAddr t x f)) fun r=>erun P z N ops os (tput T dst r) H n Q):=rfl
theorem erg_fieldAddr(t:TypeId)(x:Operand)(f:Nat):erun P z N ops (⟨dst,.fieldAddr t x f,ty,pos,after,some (j,bb)⟩::os) T H n Q=(dOK N dst∧Z7 ((gtmp ops j).bind fun t=>gval (T t) bb) fun g=>Xb g (opQ P z H g T (.fieldAddr t x f)) fun r=>erun P z N ops os (tput T dst r) H n Q):=rfl
theorem er_load(t:TypeId)(x:Operand):erun P z N ops (⟨dst,.load t x,ty,pos,after,none⟩::os) T H n Q=(dOK N dst∧cont (opQ P z H true T (.load t x)) fun r=>erun P z N ops os (tput T dst r) H n Q):=rfl
theorem erg_load(t:TypeId)(x:Operand):erun P z N ops (⟨dst,.load t x,ty,pos,after,some (j,bb)⟩::os) T H n Q=(dOK N dst∧Z7 ((gtmp ops j).bind fun t=>gval (T t) bb) fun g=>Xb g (opQ P z H g T (.load t x)) fun r=>erun P z N ops os (tput T dst r) H n Q):=rfl
theorem er_indexAddr(t:TypeId)(x i:Operand):erun P z N ops (⟨dst,.indexAddr t x i,ty,pos,after,none⟩::os) T H n Q=(dOK N dst∧cont (opQ P z H true T (.indexAddr t x i)) fun r=>erun P z N ops os (tput T dst r) H n Q):=rfl
theorem erg_indexAddr(t:TypeId)(x i:Operand):erun P z N ops (⟨dst,.indexAddr t x i,ty,pos,after,some (j,bb)⟩::os) T H n Q=(dOK N dst∧Z7 ((gtmp ops j).bind fun t=>gval (T t) bb) fun g=>Xb g (opQ P z H g T (.indexAddr t x i)) fun r=>erun P z N ops os (tput T dst r) H n Q):=rfl
theorem er_index(t:TypeId)(x i:Operand):erun P z N ops (⟨dst,.index t x i,ty,pos,after,none⟩::os) T H n Q=(dOK N dst∧cont (opQ P z H true T (.index t x i)) fun r=>erun P z N ops os (tput T dst r) H n Q):=rfl
theorem erg_index(t:TypeId)(x i:Operand):erun P z N ops (⟨dst,.index t x i,ty,pos,after,some (j,bb)⟩::os) T H n Q=(dOK N dst∧Z7 ((gtmp ops j).bind fun t=>gval (T t) bb) fun g=>Xb g (opQ P z H g T (.index t x i)) fun r=>erun P z N ops os (tput T dst r) H n Q):=rfl
theorem er_field(t:TypeId)(x:Operand)(f:Nat):erun P z N ops (⟨dst,.field t x f,ty,pos,after,none⟩::os) T H n Q=(dOK N dst∧cont (opQ P z H true T (.field t x f)) fun r=>erun P z N ops os (tput T dst r) H n Q):=rfl
theorem erg_field(t:TypeId)(x:Operand)(f:Nat):erun P z N ops (⟨dst,.field t x f,ty,pos,after,some (j,bb)⟩::os) T H n Q=(dOK N dst∧Z7 ((gtmp ops j).bind fun t=>gval (T t) bb) fun g=>Xb g (opQ P z H g T (.field t x f)) fun r=>erun P z N ops os (tput T dst r) H n Q):=rfl
theorem er_binOp(o:BinOp)(t:TypeId)(x y:Operand)(t':TypeId):erun P z N ops (⟨dst,.binOp o t x y t',ty,pos,after,none⟩::os) T H n Q=(dOK N dst∧cont (opQ P z H true T (.binOp o t x y t')) fun r=>erun P z N ops os (tput T dst r) H n Q):=rfl
theorem erg_binOp(o:BinOp)(t:TypeId)(x y:Operand)(t':TypeId):erun P z N ops (⟨dst,.binOp o t x y t',ty,pos,after,some (j,bb)⟩::os) T H n Q=(dOK N dst∧Z7 ((gtmp ops j).bind fun t=>gval (T t) bb) fun g=>Xb g (opQ P z H g T (.binOp o t x y t')) fun r=>erun P z N ops os (tput T dst r) H n Q):=rfl
theorem er_unOp(o:UnOp)(t:TypeId)(x:Operand):erun P z N ops (⟨dst,.unOp o t x,ty,pos,after,none⟩::os) T H n Q=(dOK N dst∧cont (opQ P z H true T (.unOp o t x)) fun r=>erun P z N ops os (tput T dst r) H n Q):=rfl
theorem erg_unOp(o:UnOp)(t:TypeId)(x:Operand):erun P z N ops (⟨dst,.unOp o t x,ty,pos,after,some (j,bb)⟩::os) T H n Q=(dOK N dst∧Z7 ((gtmp ops j).bind fun t=>gval (T t) bb) fun g=>Xb g (opQ P z H g T (.unOp o t x)) fun r=>erun P z N ops os (tput T dst r) H n Q):=rfl
theorem er_nilCheck(x:Operand):erun P z N ops (⟨dst,.nilCheck x,ty,pos,after,none⟩::os) T H n Q=(dOK N dst∧cont (opQ P z H true T (.nilCheck x)) fun r=>erun P z N ops os (tput T dst r) H n Q):=rfl
theorem erg_nilCheck(x:Operand):erun P z N ops (⟨dst,.nilCheck x,ty,pos,after,some (j,bb)⟩::os) T H n Q=(dOK N dst∧Z7 ((gtmp ops j).bind fun t=>gval (T t) bb) fun g=>Xb g (opQ P z H g T (.nilCheck x)) fun r=>erun P z N ops os (tput T dst r) H n Q):=rfl
theorem er_extract(x:Operand)(i:Nat):erun P z N ops (⟨dst,.extract x i,ty,pos,after,none⟩::os) T H n Q=(dOK N dst∧cont (opQ P z H true T (.extract x i)) fun r=>erun P z N ops os (tput T dst r) H n Q):=rfl
theorem erg_extract(x:Operand)(i:Nat):erun P z N ops (⟨dst,.extract x i,ty,pos,after,some (j,bb)⟩::os) T H n Q=(dOK N dst∧Z7 ((gtmp ops j).bind fun t=>gval (T t) bb) fun g=>Xb g (opQ P z H g T (.extract x i)) fun r=>erun P z N ops os (tput T dst r) H n Q):=rfl
theorem er_convert(s d:TypeId)(x:Operand):erun P z N ops (⟨dst,.convert s d x,ty,pos,after,none⟩::os) T H n Q=(dOK N dst∧if s=d then Y7 (wCv P z H n T s d x (evO T x)) fun r H' n'=>erun P z N ops os (tput T dst r) H' n' Q else cont (opQ P z H true T (.convert s d x)) fun r=>erun P z N ops os (tput T dst r) H n Q):=by
 by_cases h:s=d
 ·rw[if_pos h,erun_w (by simp[X4,h])];rfl
 ·rw[if_neg h,erun_q (by simp[X4,h])]
theorem erg_convert(s d:TypeId)(x:Operand)(h:s≠d):erun P z N ops (⟨dst,.convert s d x,ty,pos,after,some (j,bb)⟩::os) T H n Q=(dOK N dst∧Z7 ((gtmp ops j).bind fun t=>gval (T t) bb) fun g=>Xb g (opQ P z H g T (.convert s d x)) fun r=>erun P z N ops os (tput T dst r) H n Q):=erun_gq (by simp[X4,h])
theorem er_makeFunc(f:Fn)(a b:Array Operand):erun P z N ops (⟨dst,.makeFunc f a b,ty,pos,after,none⟩::os) T H n Q=(dOK N dst∧cont (opQ P z H true T (.makeFunc f a b)) fun r=>erun P z N ops os (tput T dst r) H n Q):=rfl
theorem erg_makeFunc(f:Fn)(a b:Array Operand):erun P z N ops (⟨dst,.makeFunc f a b,ty,pos,after,some (j,bb)⟩::os) T H n Q=(dOK N dst∧Z7 ((gtmp ops j).bind fun t=>gval (T t) bb) fun g=>Xb g (opQ P z H g T (.makeFunc f a b)) fun r=>erun P z N ops os (tput T dst r) H n Q):=rfl
theorem er_slice(t:TypeId)(x:Operand)(l h m:Option Operand):erun P z N ops (⟨dst,.slice t x l h m,ty,pos,after,none⟩::os) T H n Q=(dOK N dst∧cont (opQ P z H true T (.slice t x l h m)) fun r=>erun P z N ops os (tput T dst r) H n Q):=rfl
theorem erg_slice(t:TypeId)(x:Operand)(l h m:Option Operand):erun P z N ops (⟨dst,.slice t x l h m,ty,pos,after,some (j,bb)⟩::os) T H n Q=(dOK N dst∧Z7 ((gtmp ops j).bind fun t=>gval (T t) bb) fun g=>Xb g (opQ P z H g T (.slice t x l h m)) fun r=>erun P z N ops os (tput T dst r) H n Q):=rfl
theorem er_build(t:TypeId)(p:Array (Nat×Operand)):erun P z N ops (⟨dst,.build t p,ty,pos,after,none⟩::os) T H n Q=(dOK N dst∧cont (opQ P z H true T (.build t p)) fun r=>erun P z N ops os (tput T dst r) H n Q):=rfl
theorem erg_build(t:TypeId)(p:Array (Nat×Operand)):erun P z N ops (⟨dst,.build t p,ty,pos,after,some (j,bb)⟩::os) T H n Q=(dOK N dst∧Z7 ((gtmp ops j).bind fun t=>gval (T t) bb) fun g=>Xb g (opQ P z H g T (.build t p)) fun r=>erun P z N ops os (tput T dst r) H n Q):=rfl
theorem er_buildSlice(t:TypeId)(k:Nat)(p:Array (Nat×Operand)):erun P z N ops (⟨dst,.buildSlice t k p,ty,pos,after,none⟩::os) T H n Q=(dOK N dst∧Y7 (opW P z H n T (.buildSlice t k p)) fun r H' n'=>erun P z N ops os (tput T dst r) H' n' Q):=rfl
theorem er_makeMap(t:TypeId)(r:Option Operand):erun P z N ops (⟨dst,.makeMap t r,ty,pos,after,none⟩::os) T H n Q=(dOK N dst∧Y7 (opW P z H n T (.makeMap t r)) fun r H' n'=>erun P z N ops os (tput T dst r) H' n' Q):=rfl
theorem er_mapUpdate(t:TypeId)(m k v:Operand):erun P z N ops (⟨dst,.mapUpdate t m k v,ty,pos,after,none⟩::os) T H n Q=(dOK N dst∧Y7 (opW P z H n T (.mapUpdate t m k v)) fun r H' n'=>erun P z N ops os (tput T dst r) H' n' Q):=rfl
theorem er_lookup(t:TypeId)(x i:Operand)(b:Bool):erun P z N ops (⟨dst,.lookup t x i b,ty,pos,after,none⟩::os) T H n Q=(dOK N dst∧cont (opQ P z H true T (.lookup t x i b)) fun r=>erun P z N ops os (tput T dst r) H n Q):=rfl
theorem erg_lookup(t:TypeId)(x i:Operand)(b:Bool):erun P z N ops (⟨dst,.lookup t x i b,ty,pos,after,some (j,bb)⟩::os) T H n Q=(dOK N dst∧Z7 ((gtmp ops j).bind fun t=>gval (T t) bb) fun g=>Xb g (opQ P z H g T (.lookup t x i b)) fun r=>erun P z N ops os (tput T dst r) H n Q):=rfl
theorem Me(t:TypeId)(x:Operand):erun P z N ops (⟨dst,.makeInterface t x,ty,pos,after,none⟩::os) T H n Q=(dOK N dst∧cont (opQ P z H true T (.makeInterface t x)) fun r=>erun P z N ops os (tput T dst r) H n Q):=rfl
theorem KY(t:TypeId)(x:Operand):erun P z N ops (⟨dst,.makeInterface t x,ty,pos,after,some (j,bb)⟩::os) T H n Q=(dOK N dst∧Z7 ((gtmp ops j).bind fun t=>gval (T t) bb) fun g=>Xb g (opQ P z H g T (.makeInterface t x)) fun r=>erun P z N ops os (tput T dst r) H n Q):=rfl
theorem er_typeAssert(x:Operand)(t a:TypeId)(b:Bool):erun P z N ops (⟨dst,.typeAssert x t a b,ty,pos,after,none⟩::os) T H n Q=(dOK N dst∧cont (opQ P z H true T (.typeAssert x t a b)) fun r=>erun P z N ops os (tput T dst r) H n Q):=rfl
theorem PG(x:Operand)(t a:TypeId)(b:Bool):erun P z N ops (⟨dst,.typeAssert x t a b,ty,pos,after,some (j,bb)⟩::os) T H n Q=(dOK N dst∧Z7 ((gtmp ops j).bind fun t=>gval (T t) bb) fun g=>Xb g (opQ P z H g T (.typeAssert x t a b)) fun r=>erun P z N ops os (tput T dst r) H n Q):=rfl
theorem er_makeSlice(t:TypeId)(x y:Operand):erun P z N ops (⟨dst,.makeSlice t x y,ty,pos,after,none⟩::os) T H n Q=(dOK N dst∧Y7 (opW P z H n T (.makeSlice t x y)) fun r H' n'=>erun P z N ops os (tput T dst r) H' n' Q):=rfl
theorem er_store(t:TypeId)(x v:Operand):erun P z N ops (⟨dst,.store t x v,ty,pos,after,none⟩::os) T H n Q=(dOK N dst∧Y7 (opW P z H n T (.store t x v)) fun r H' n'=>erun P z N ops os (tput T dst r) H' n' Q):=rfl
theorem er_box(t:TypeId)(x:Operand):erun P z N ops (⟨dst,.box t x,ty,pos,after,none⟩::os) T H n Q=(dOK N dst∧Y7 (opW P z H n T (.box t x)) fun r H' n'=>erun P z N ops os (tput T dst r) H' n' Q):=rfl
theorem er_alloc(t:TypeId):erun P z N ops (⟨dst,.alloc t,ty,pos,after,none⟩::os) T H n Q=(dOK N dst∧Y7 (opW P z H n T (.alloc t)) fun r H' n'=>erun P z N ops os (tput T dst r) H' n' Q):=rfl
theorem er_len(args:Array Operand)(ts:Array TypeId):erun P z N ops (⟨dst,.call ⟨.builtin .len,args,ts⟩,ty,pos,after,none⟩::os) T H n Q=(dOK N dst∧cont (opQ P z H true T (.call ⟨.builtin .len,args,ts⟩)) fun r=>erun P z N ops os (tput T dst r) H n Q):=rfl
theorem er_max(args:Array Operand)(ts:Array TypeId):erun P z N ops (⟨dst,.call ⟨.builtin .max,args,ts⟩,ty,pos,after,none⟩::os) T H n Q=(dOK N dst∧cont (opQ P z H true T (.call ⟨.builtin .max,args,ts⟩)) fun r=>erun P z N ops os (tput T dst r) H n Q):=rfl
theorem er_min(args:Array Operand)(ts:Array TypeId):erun P z N ops (⟨dst,.call ⟨.builtin .min,args,ts⟩,ty,pos,after,none⟩::os) T H n Q=(dOK N dst∧cont (opQ P z H true T (.call ⟨.builtin .min,args,ts⟩)) fun r=>erun P z N ops os (tput T dst r) H n Q):=rfl
theorem erg_len(args:Array Operand)(ts:Array TypeId):erun P z N ops (⟨dst,.call ⟨.builtin .len,args,ts⟩,ty,pos,after,some (j,bb)⟩::os) T H n Q=(dOK N dst∧Z7 ((gtmp ops j).bind fun t=>gval (T t) bb) fun g=>Xb g (opQ P z H g T (.call ⟨.builtin .len,args,ts⟩)) fun r=>erun P z N ops os (tput T dst r) H n Q):=rfl
theorem er_append(args:Array Operand)(ts:Array TypeId):erun P z N ops (⟨dst,.call ⟨.builtin .append,args,ts⟩,ty,pos,after,none⟩::os) T H n Q=(dOK N dst∧Y7 (opW P z H n T (.call ⟨.builtin .append,args,ts⟩)) fun r H' n'=>erun P z N ops os (tput T dst r) H' n' Q):=rfl
end
theorem fld_agg(fs:List AV)(i:Nat):(AV.agg fs).fld i=nth fs i:=rfl
theorem nth_zero(a:AV)(l:List AV):nth (a::l) 0=a:=rfl
theorem nth_succ(a:AV)(l:List AV)(i:Nat):nth (a::l) (i+1)=nth l i:=by simp[nth]
theorem nf_agg(fs:List AV):(AV.agg fs).nf=fs.length:=rfl
theorem offs_agg(fs:List AV)(i:Nat):(AV.agg fs).offs i=AV.szs (fs.take i):=rfl
theorem setf_agg(fs:List AV)(i:Nat)(v:AV):(AV.agg fs).setf i v= .agg (fs.set i v):=rfl
theorem Rl(H:Heap)(k j:Nat)(o:Option AObj):H.put k o j=if j=k then o else H j:=rfl
attribute [go_sem] Me KY er_typeAssert PG er_makeSlice opQ.eq_20 opQ.eq_21 qMkI KD.eq_1 KD.eq_2 opW.eq_9 wMkSl.eq_1 wMkSl2.eq_1 Yu.eq_4 globOf.eq_1 qIdxG.eq_1 qIdxG1.eq_1 qIdxG2.eq_1 qSlNil.eq_1
attribute [go_sem] qBin.eq_30 qBin.eq_31 qBin.eq_32 qBin.eq_33 qBin.eq_34 qBin.eq_35 qBin.eq_36 qBin.eq_37 qBin.eq_38 qBin.eq_39 qBin.eq_40 qBin.eq_41 qBin.eq_42 qBin.eq_43 qBin.eq_44 qBin.eq_45 qBin.eq_46 qBin.eq_47 qBin.eq_48 qBin.eq_49
attribute [go_sem] wCv.eq_1 wConv.eq_1 Lu.eq_1
attribute [go_sem] er_move erg_move er_assign erg_assign er_pick erg_pick er_fieldAddr erg_fieldAddr er_load erg_load er_indexAddr erg_indexAddr er_index erg_index er_field erg_field er_binOp erg_binOp er_unOp erg_unOp er_nilCheck erg_nilCheck er_extract erg_extract er_len er_max er_min erg_len er_append er_convert erg_convert er_makeFunc erg_makeFunc er_slice erg_slice er_build erg_build er_buildSlice er_makeMap er_mapUpdate er_lookup erg_lookup er_store er_box er_alloc
attribute [go_sem] erun.eq_1 erun_c erun_gc dOK.eq_1 dOK.eq_2
attribute [go_sem] opQ.eq_1 opQ.eq_2 opQ.eq_3 opQ.eq_4 opQ.eq_5 opQ.eq_6 opQ.eq_7 opQ.eq_8 opQ.eq_9 opQ.eq_10 opQ_len opQ.eq_12 opQ.eq_13 opQ.eq_14 opQ.eq_15 opQ.eq_16 opQ.eq_17 opQ.eq_18 opQ.eq_19 qSlice3.eq_1 optI.eq_1 optI.eq_2 Yo.eq_1 Yo.eq_2 Yo.eq_3 Yo.eq_4 Yo.eq_5 qConvS.eq_1 qConvS.eq_2 qConvO.eq_1 XD.eq_1 XD.eq_2 XD.eq_3 XD.eq_4 qField.eq_1 Uy.eq_1 Uy.eq_2 Kb.eq_1 Kb.eq_2 Kb.eq_3 Kb.eq_4 qSlO.eq_1 qBuild Ul LP Vm.eq_1 Vm.eq_2 Kl.eq_1 Kl.eq_2 Qh.eq_1 Qh.eq_2
attribute [go_sem] opW.eq_1 opW.eq_2 opW.eq_3 opW.eq_4 opW.eq_5 opW.eq_6 opW.eq_7 wBSl UL.eq_1 UL.eq_2 wMapUp.eq_1 wMapUpO.eq_1 M9.eq_1 KA.eq_1 KA.eq_2 qLookO.eq_1 LQ.eq_1 wAppL.eq_1 Na wApp2.eq_1 wApp2.eq_2 wAppA.eq_1 slcO.eq_1 slcO.eq_2 slcO.eq_3 slcO.slcA.eq_1
attribute [go_sem] strip.eq_1 strip.eq_2 evO.eq_1 evO.eq_2 evO.eq_3 evO.eq_4 cont_some contG_some contG_none contB_some contW_some contL_some
attribute [go_sem] Q6.eq_1 Q6.eq_2 Q6.eq_3 Q6.eq_4 Q6.eq_5 Q6.eq_6 Q6.eq_7 Q6.eq_8
attribute [go_sem] gval.eq_1 gval.eq_2 gtmp_eq MC.eq_1 MC.eq_2 MC.eq_3 tput_tl tput_none tl.eq_1 tl.eq_2 tsel_eq ZK.eq_1 ZK.eq_2 Ju.eq_1 Ju.eq_2 argL.eq_1 argL.eq_2
attribute [go_sem] Fin.eq_1 Fin.eq_2 Fin.eq_3 Fin.eq_4 resC.eq_1 resC.eq_2 resC.eq_3 resT.eq_1 resL.eq_1 resV.eq_1 resV.eq_2
attribute [go_sem] Qf qFA.eq_1 qFA.eq_2 VT.eq_1 VT.eq_2 qLoadO.eq_1 Yu.eq_1 Yu.eq_2 Yu.eq_3 qIdxA.eq_1 qIdxO.eq_1
attribute [go_sem] qBin.eq_1 qBin.eq_2 qBin.eq_3 qBin.eq_4 qBin.eq_5 qBin.eq_6 qBin.eq_7 qBin.eq_8 qBin.eq_9 qBin.eq_10 qBin.eq_11 qBin.eq_12 qBin.eq_13 qBin.eq_14 qBin.eq_15 qBin.eq_16 qBin.eq_17 qBin.eq_18 qBin.eq_19 qBin.eq_20 qBin.eq_21 qBin.eq_22 qBin.eq_23 qBin.eq_24 qBin.eq_25 qBin.eq_26 qBin.eq_27 qBin.eq_28 qBin.eq_29 qEqNums.eq_1 numsL.eq_1 numsL.eq_2
attribute [go_sem] qUn.eq_1 qUn.eq_2 qUn.eq_3 qNil.eq_1 qNil.eq_2 qNil.eq_3 KC.eq_1 qLen.eq_1 qLen.eq_2 qLen.eq_3 qLen.eq_4 NQ.eq_1 NQ.eq_2 NQ.eq_3 NP.eq_1 NP.eq_2 NP.eq_3 NP.eq_4 NP.eq_5
attribute [go_sem] wStore.eq_1 wStoreO.eq_1 wBox wAlloc tyOK
attribute [go_sem] fld_agg nth_zero nth_succ nf_agg offs_agg setf_agg AV.at.eq_1 AV.at.eq_2 AV.pathOff.eq_1 AV.pathOff.eq_2 AV.pathOK.eq_1 AV.pathOK.eq_2 AV.upd.eq_1 AV.upd.eq_2 AV.sz.eq_1 AV.sz.eq_2 AV.szs.eq_1 AV.szs.eq_2 AV.isAgg.eq_1 AV.isAgg.eq_2 AV.memOK.eq_5 Rl
def opAt:List Oper→Nat→Option Oper
 | [],_=>none
 | o::_,0=>some o
 | _::l,k+1=>opAt l k
theorem opAt_eq(l:List Oper)(k:Nat):opAt l k=l[k]? :=by
 induction l generalizing k with
 | nil=>simp[opAt]
 | cons o l ih=>cases k<;>simp[opAt,ih]
def XO(P:Program)(z:TypeId→AV)(T:Nat→AV)(H H':Heap):Option Oper→Prop
 | none=>True
 | some ⟨dst,.call ⟨.value fo,args,_⟩,_,_,_,none⟩=>∀d,dst=some d→Jr P (strip true (evO T fo)) (args.toList.map fun x=>strip true (evO T x)) H' (T d)
 | some ⟨_,.call ⟨.value _,_,_⟩,_,_,_,some _⟩=>False
 | some ⟨_,op,_,_,_,_⟩=>∀g,opQ P z H' g T op=opQ P z H g T op
def Vx(P:Program)(z:TypeId→AV)(l:List Oper)(T:Nat→AV)(H H':Heap):List Nat→Prop
 | []=>True
 | q::qs=>XO P z T H H' (opAt l q)∧Vx P z l T H H' qs
theorem sameC_one{P:Program}{z:TypeId→AV}{l:List Oper}{T:Nat→AV}{H H':Heap}{q:Nat}(h:XO P z T H H' (opAt l q)):YD P z l.toArray q T H H':=by
 rw[opAt_eq]at h;unfold YD;simp only[List.getElem?_toArray];cases ho:l[q]? with
 | none=>trivial
 | some o=>
   rw[ho]at h;obtain⟨dst,op,ty,pos,after,guard⟩:=o;unfold XO at h;split at h
   ·rename_i heq;simp at heq
   ·rename_i heq;simp only[Option.some.injEq,Oper.mk.injEq]at heq;obtain⟨rfl,rfl,rfl,rfl,rfl,rfl⟩:=heq;exact h
   ·exact h.elim
   ·rename_i x1 x2 heq;simp only[Option.some.injEq,Oper.mk.injEq]at heq;obtain⟨rfl,rfl,rfl,rfl,rfl,rfl⟩:=heq;dsimp only;split
    ·rename_i fo args ts;exact(x1 _ _ _ rfl rfl).elim
    ·rename_i fo args ts jb;exact(x2 _ _ _ _ rfl rfl).elim
    ·intro g _;exact h g
def samesA(P:Program)(z:TypeId→AV)(l:List Oper)(T:Nat→AV)(H:Heap)(inc:List Nat):Prop:=∀H2,Js H H2→Vx P z l T H H2 inc
theorem JB{P:Program}{z:TypeId→AV}{l:List Oper}{T:Nat→AV}{H H':Heap}:∀{qs:List Nat},Vx P z l T H H' qs→∀q∈qs,YD P z l.toArray q T H H'
 | [],_,q,hq=>by simp at hq
 | x::qs,h,q,hq=>by
   rcases List.mem_cons.1 hq with rfl | hq
   ·exact sameC_one h.1
   ·exact JB h.2 q hq
def Jf(P:Program)(g:Bool)(fv:AV)(args:List AV)(H:Heap)(k:AV→Prop):Prop:=∃r,(g=true→Jr P fv args H r)∧k r
@[congr] theorem callQG_congr{P:Program}{g g':Bool}{fv fv':AV}{args args':List AV}{H H':Heap}{k:AV→Prop}(h0:g=g')(h1:fv=fv')(h2:args=args')(h3:H=H'):
 Jf P g fv args H k=Jf P g' fv' args' H' k:=by rw[h0,h1,h2,h3]
theorem ZQ{P : Program}{g : Bool}{f : FuncId}{fn : Func}{first captured args args' : List AV}{H : Heap}{k : AV → Prop}{r : AV}
   (hf:P.funcs[f]? =some fn) (hb:fn.body.isSome=true) (hn:(fn.name== "runtime.NumGoroutine")=false) (ha:first++args++captured=args') (h:g=true→∀n,Ret P f args' H n r H n) (hk:k r):Jf P g (.fn (.func f) first captured) args H k:=
 ⟨r,fun hg n=>Zu hf hb hn ha (h hg n) ⟨rfl,rfl,rfl⟩,hk⟩
def dr(P:Program)(z:TypeId→AV)(N:Nat)(l:List Oper):List (Oper×DK)→(Nat→AV)→Heap→Nat→(QK)→Prop
 | [],T,H,n,Q=>Q .normal T H n
 | (⟨dst,op,_,_,_,none⟩,k)::os,T,H,n,Q=>dOK N dst∧match k with
   | .m=>match op with
     | .move x=>dr P z N l os (tput T dst (strip true (evO T x))) H n Q
     | _=>False
   | .q=>cont (opQ P z H true T op) fun r=>dr P z N l os (tput T dst r) H n Q
   | .c=>match op with
     | .call ⟨.value fo,args,_⟩=>Jf P true (strip true (evO T fo)) (args.toList.map fun x=>strip true (evO T x)) H fun r=>dr P z N l os (tput T dst r) H n Q
     | _=>False
   | .w inc=>match op with
     | .call ⟨.value fo,args,_⟩=>Vr P (evO T fo) (args.toList.map (evO T)) H n (fun r H' n'=>Vx P z l T H H' inc∧dr P z N l os (tput T dst r) H' n' Q) (fun p H' n'=>Q (.pan p) T H' n')
     | op=>Y7 (opW P z H n T op) fun r H' n'=>Vx P z l T H H' inc∧dr P z N l os (tput T dst r) H' n' Q
   | .a key inc=>Y7 (opA P z H key n T op) fun r H' n'=>samesA P z l T H inc∧dr P z N l os (tput T dst r) H' n' Q
 | (⟨dst,op,_,_,_,some (j,b)⟩,k)::os,T,H,n,Q=>dOK N dst∧Z7 ((gtmp l.toArray j).bind fun t=>gval (T t) b) fun g=>match k with
   | .m=>match op with
     | .move x=>dr P z N l os (tput T dst (.opt g (strip g (evO T x)))) H n Q
     | _=>False
   | .q=>Xb g (opQ P z H g T op) fun r=>dr P z N l os (tput T dst r) H n Q
   | .c=>match op with
     | .call ⟨.value fo,args,_⟩=>Jf P g (strip g (evO T fo)) (args.toList.map fun x=>strip g (evO T x)) H fun r=>dr P z N l os (tput T dst (.opt g r)) H n Q
     | _=>False
   | .w _=>False
   | .a _ _=>False
section
variable (P:Program)(z:TypeId→AV)(N:Nat)(l:List Oper)(T:Nat→AV)(H:Heap)(n:Nat)(Q:QK)(dst:Option Tmp)(ty:TypeId)(pos:String)(after:Array Edge)(os:List (Oper×DK))(j:Nat)(bb:Bool)
theorem dr_nil:dr P z N l [] T H n Q=Q .normal T H n:=rfl
theorem dr_m(x:Operand):dr P z N l ((⟨dst,.move x,ty,pos,after,none⟩,.m)::os) T H n Q=(dOK N dst∧dr P z N l os (tput T dst (strip true (evO T x))) H n Q):=rfl
theorem dr_gm(x:Operand):dr P z N l ((⟨dst,.move x,ty,pos,after,some (j,bb)⟩,.m)::os) T H n Q=(dOK N dst∧Z7 ((gtmp l.toArray j).bind fun t=>gval (T t) bb) fun g=>dr P z N l os (tput T dst (.opt g (strip g (evO T x)))) H n Q):=rfl
theorem dr_q(op:Op):dr P z N l ((⟨dst,op,ty,pos,after,none⟩,.q)::os) T H n Q=(dOK N dst∧cont (opQ P z H true T op) fun r=>dr P z N l os (tput T dst r) H n Q):=rfl
theorem dr_gq(op:Op):dr P z N l ((⟨dst,op,ty,pos,after,some (j,bb)⟩,.q)::os) T H n Q=(dOK N dst∧Z7 ((gtmp l.toArray j).bind fun t=>gval (T t) bb) fun g=>Xb g (opQ P z H g T op) fun r=>dr P z N l os (tput T dst r) H n Q):=rfl
theorem dr_c(fo:Operand)(args:List Operand)(ts:Array TypeId):dr P z N l ((⟨dst,.call ⟨.value fo,args.toArray,ts⟩,ty,pos,after,none⟩,.c)::os) T H n Q=(dOK N dst∧Jf P true (strip true (evO T fo)) (args.map fun x=>strip true (evO T x)) H fun r=>dr P z N l os (tput T dst r) H n Q):=rfl
theorem dr_gc(fo:Operand)(args:List Operand)(ts:Array TypeId):dr P z N l ((⟨dst,.call ⟨.value fo,args.toArray,ts⟩,ty,pos,after,some (j,bb)⟩,.c)::os) T H n Q=(dOK N dst∧Z7 ((gtmp l.toArray j).bind fun t=>gval (T t) bb) fun g=>Jf P g (strip g (evO T fo)) (args.map fun x=>strip g (evO T x)) H fun r=>dr P z N l os (tput T dst (.opt g r)) H n Q):=rfl
theorem dr_wc(inc:List Nat)(fo:Operand)(args:List Operand)(ts:Array TypeId):dr P z N l ((⟨dst,.call ⟨.value fo,args.toArray,ts⟩,ty,pos,after,none⟩,.w inc)::os) T H n Q=(dOK N dst∧Vr P (evO T fo) (args.map (evO T)) H n (fun r H' n'=>Vx P z l T H H' inc∧dr P z N l os (tput T dst r) H' n' Q) (fun p H' n'=>Q (.pan p) T H' n')):=rfl
theorem dr_store(inc:List Nat)(t:TypeId)(x v:Operand):dr P z N l ((⟨dst,.store t x v,ty,pos,after,none⟩,.w inc)::os) T H n Q=(dOK N dst∧Y7 (opW P z H n T (.store t x v)) fun r H' n'=>Vx P z l T H H' inc∧dr P z N l os (tput T dst r) H' n' Q):=rfl
theorem dr_box(inc:List Nat)(t:TypeId)(x:Operand):dr P z N l ((⟨dst,.box t x,ty,pos,after,none⟩,.w inc)::os) T H n Q=(dOK N dst∧Y7 (opW P z H n T (.box t x)) fun r H' n'=>Vx P z l T H H' inc∧dr P z N l os (tput T dst r) H' n' Q):=rfl
theorem dr_alloc(inc:List Nat)(t:TypeId):dr P z N l ((⟨dst,.alloc t,ty,pos,after,none⟩,.w inc)::os) T H n Q=(dOK N dst∧Y7 (opW P z H n T (.alloc t)) fun r H' n'=>Vx P z l T H H' inc∧dr P z N l os (tput T dst r) H' n' Q):=rfl
theorem dr_allocA(key:Nat)(inc:List Nat)(t:TypeId):dr P z N l ((⟨dst,.alloc t,ty,pos,after,none⟩,.a key inc)::os) T H n Q=(dOK N dst∧Y7 (opAO H key n (H key) (some (ZW P t (z t),.loc key 1 0 0 [],.arr 1 (z t).sz [z t]))) fun r H' n'=>samesA P z l T H inc∧dr P z N l os (tput T dst r) H' n' Q):=rfl
theorem dr_makeA(key:Nat)(inc:List Nat)(t:TypeId)(x y:Operand):dr P z N l ((⟨dst,.makeSlice t x y,ty,pos,after,none⟩,.a key inc)::os) T H n Q=(dOK N dst∧Y7 (opAO H key n (H key) (newMk P z key (tElT P t) (tEl P t) (evO T x) (evO T y))) fun r H' n'=>samesA P z l T H inc∧dr P z N l os (tput T dst r) H' n' Q):=rfl
theorem newMk_some(key:Nat)(e:TypeId)(s b:Nat)(k1 k2:IntKind)(l c:Int):newMk P z key (some e) (some (s,b)) (.int k1 l) (.int k2 c)=some (0≤l∧l≤c∧b*c≤281474976710656∧c≤9223372036854775807∧s=(z e).sz∧ZW P e (z e),.osl key 1 0 l.toNat,.arr 1 s (List.replicate c.toNat (z e))):=rfl
theorem opAO_some(e:Nat)(key:Nat)(C:Prop)(r:AV)(o:AObj):opAO H key n (some (.arr 0 e [])) (some (C,r,o))=some (C,r,H.put key (some o),n):=rfl
theorem dr_makeSlice(inc:List Nat)(t:TypeId)(x y:Operand):dr P z N l ((⟨dst,.makeSlice t x y,ty,pos,after,none⟩,.w inc)::os) T H n Q=(dOK N dst∧Y7 (opW P z H n T (.makeSlice t x y)) fun r H' n'=>Vx P z l T H H' inc∧dr P z N l os (tput T dst r) H' n' Q):=rfl
theorem dr_makeMap(inc:List Nat)(t:TypeId)(r:Option Operand):dr P z N l ((⟨dst,.makeMap t r,ty,pos,after,none⟩,.w inc)::os) T H n Q=(dOK N dst∧Y7 (opW P z H n T (.makeMap t r)) fun r H' n'=>Vx P z l T H H' inc∧dr P z N l os (tput T dst r) H' n' Q):=rfl
theorem dr_mapUpdate(inc:List Nat)(t:TypeId)(m k v:Operand):dr P z N l ((⟨dst,.mapUpdate t m k v,ty,pos,after,none⟩,.w inc)::os) T H n Q=(dOK N dst∧Y7 (opW P z H n T (.mapUpdate t m k v)) fun r H' n'=>Vx P z l T H H' inc∧dr P z N l os (tput T dst r) H' n' Q):=rfl
theorem dr_buildSlice(inc:List Nat)(t:TypeId)(k:Nat)(p:Array (Nat×Operand)):dr P z N l ((⟨dst,.buildSlice t k p,ty,pos,after,none⟩,.w inc)::os) T H n Q=(dOK N dst∧Y7 (opW P z H n T (.buildSlice t k p)) fun r H' n'=>Vx P z l T H H' inc∧dr P z N l os (tput T dst r) H' n' Q):=rfl
theorem dr_append(inc:List Nat)(args:Array Operand)(ts:Array TypeId):dr P z N l ((⟨dst,.call ⟨.builtin .append,args,ts⟩,ty,pos,after,none⟩,.w inc)::os) T H n Q=(dOK N dst∧Y7 (opW P z H n T (.call ⟨.builtin .append,args,ts⟩)) fun r H' n'=>Vx P z l T H H' inc∧dr P z N l os (tput T dst r) H' n' Q):=rfl
end
mutual
def flat:AV→Option (List Value)
 | .int k n=>some [.int k n]
 | .bool b=>some [.bool b]
 | .str s=>some [.string ⟨s.toArray⟩]
 | .nilp=>some [.pointer none]
 | .nilsl=>some [.slice none 0 0]
 | .nilf=>some [.nilFunc]
 | .nilm=>some [.map none]
 | .nili=>some [.nilIface]
 | .agg fs=>Ps fs
 | _=>none
def Ps:List AV→Option (List Value)
 | []=>some []
 | f::fs=>match flat f,Ps fs with
   | some a,some b=>some (a++b)
   | _,_=>none
end
mutual
theorem flat_rel(c:Ctx):∀(av:AV) (cs:List Value),flat av=some cs→Rel c av true cs
 | .int k n,cs,h=>by simp only[flat,Option.some.injEq]at h;subst h;simp[Rel]
 | .bool b,cs,h=>by simp only[flat,Option.some.injEq]at h;subst h;simp[Rel]
 | .str s,cs,h=>by simp only[flat,Option.some.injEq]at h;subst h;simp[Rel]
 | .nilp,cs,h=>by simp only[flat,Option.some.injEq]at h;subst h;simp[Rel]
 | .nilsl,cs,h=>by simp only[flat,Option.some.injEq]at h;subst h;simp[Rel]
 | .nilf,cs,h=>by simp only[flat,Option.some.injEq]at h;subst h;simp[Rel]
 | .nilm,cs,h=>by simp only[flat,Option.some.injEq]at h;subst h;simp[Rel]
 | .nili,cs,h=>by simp only[flat,Option.some.injEq]at h;subst h;simp[Rel]
 | .agg fs,cs,h=>by simp only[flat]at h;simp only[Rel];exact L9 c fs cs h
 | .rp _,_,h=>by simp[flat]at h
 | .loc _ _ _ _ _,_,h=>by simp[flat]at h
 | .sl _ _,_,h=>by simp[flat]at h
 | .osl _ _ _ _,_,h=>by simp[flat]at h
 | .tup _,_,h=>by simp[flat]at h
 | .fn _ _ _,_,h=>by simp[flat]at h
 | .omap _,_,h=>by simp[flat]at h
 | .iface _ _,_,h=>by simp[flat]at h
 | .opt _ _,_,h=>by simp[flat]at h
 | .raw _,_,h=>by simp[flat]at h
 | .junk,_,h=>by simp[flat]at h
theorem L9(c:Ctx):∀(fs:List AV) (cs:List Value),Ps fs=some cs→RelF c fs cs
 | [],cs,h=>by simp only[Ps,Option.some.injEq]at h;subst h;simp[RelF]
 | f::fs,cs,h=>by
   simp only[Ps]at h;split at h
   ·rename_i a b ha hb;simp only[Option.some.injEq]at h;subst h;simp only[RelF];exact⟨a,b,rfl,flat_rel c f a ha,L9 c fs b hb⟩
   ·simp at h
end
def flatV(z:AV):Option Value:=
 match z with
 | .agg fs=>(Ps fs).map fun cs=> .agg cs.toArray
 | z=>match flat z with
   | some [v]=>some v
   | _=>none
theorem ZH{P:Program}{t:TypeId}{z:AV}(hm:z.memOK=true)(v:Value)(h1:((P.info? t).bind (·.zero))=some v)(h:flatV z=some v):ZW P t z:=by
 cases hi:P.info? t with
 | none=>rw[hi]at h1;simp at h1
 | some i=>
   rw[hi]at h1;refine⟨hm,i,v,hi,by simpa using h1,fun c=> ?_⟩;unfold flatV at h;split at h
   ·rename_i fs;cases hf:Ps fs with
    | none=>rw[hf]at h;simp at h
    | some cs=>
      rw[hf]at h;simp only[Option.map_some,Option.some.injEq]at h;subst h;simp only[Rel];exact⟨_,rfl,L9 c fs _ (by simpa using hf)⟩
   ·rename_i hne;split at h
    ·rename_i u hu;simp only[Option.some.injEq]at h;subst h;have:=flat_rel c _ _ hu;obtain⟨v',e,hv⟩:=Sa this (by cases z<;>first | rfl | exact(hne _ rfl).elim);simp at e;subst e;exact hv
    ·simp at h
attribute [go_sem] dr_allocA dr_makeA newMk_some opAO_some dr_nil dr_m dr_gm dr_q dr_gq dr_c dr_gc dr_wc dr_store dr_box dr_alloc dr_makeSlice dr_append dr_makeMap dr_mapUpdate dr_buildSlice Vx.eq_1 Vx.eq_2 opAt.eq_1 opAt.eq_2 opAt.eq_3
attribute [go_sem] List.map_cons List.map_nil true_and and_true Option.bind_some cond_true cond_false List.zip_cons_cons List.zip_nil_right Bool.not_or_self List.length_cons List.length_nil
end Go.Sx