/- Own layer: what is lent, whatever else turns; an answer of one's own out of a call that is lent. Of every program; no condition. -/
import Derived.Test.YtkmkbndcekklmaaGreatDoorPE
import Derived.Test.YtkmkbndcekklmaaGreatDoorPD
import GoSem.Extern.BytealgIndexByte
import Derived.Scope
set_option linter.unusedSimpArgs false
set_option linter.unusedVariables false
namespace Go.Sx
open Go
def Lnt(ks:List Nat)(H:Heap)(a b:AV):Prop:=∀H':Heap,(∀k∈ks,H' k=H k)→Frz H' 0 a b
theorem Lnt.frz{ks:List Nat}{H:Heap}{a b:AV}(h:Lnt ks H a b):Frz H 0 a b:=h H fun _ _=>rfl
theorem Lnt.on{ks:List Nat}{H H':Heap}{a b:AV}(h:Lnt ks H a b)(hk:∀k∈ks,H' k=H k):Lnt ks H' a b:=fun H2 h2=>h H2 fun k m=>(h2 k m).trans (hk k m)
theorem Lnt.kl{ks:List Nat}{H:Heap}{a:AV}(h:a.kl 0):Lnt ks H a a:=fun _ _=> .kl h
theorem Own.lnt{H:Heap}{a b:AV}{ks:List Nat}(h:Own H a b ks):Lnt ks H a b:=fun _ h'=>(h.frame h').frz fun _ _=>Nat.zero_le _
def AObj.short:AObj→AObj→Prop
 | .arr v e l,.arr v' e' l'=>v'=v∧e'=e∧∃m,l=l'++m
 | o,o'=>o'=o
theorem AObj.short.ver{o o':AObj}(h:o.short o'):o'.ver=o.ver:=by
 cases o<;>cases o'<;>simp_all [AObj.short,AObj.ver]
theorem AObj.short.block{c:Ctx}{k:Nat}{o o':AObj}(h:o.short o'):Zm c k o'=Zm c k o:=by unfold Zm;rw[h.ver]
theorem AObj.short.refl(o:AObj):o.short o:=by cases o<;>simp[AObj.short]
theorem Step.trim{c:Ctx}{H H':Heap}{n:Nat}{w:World}(h:Sim c H n w)(hH:∀k o',H' k=some o'→∃o,H k=some o∧o.short o'):Step c H w c H' n w where
 le:= .refl _
 sim:={
   ro:=h.ro
   own:=fun k o' hk=>by
     obtain⟨o,h1,h2⟩:=hH k o' hk;have ho:=h.own k o h1;cases o with
     | arr v e l=>
       cases o' with
       | arr v' e' l'=>
         obtain⟨rfl,rfl,m,rfl⟩:=h2;simp only[ZR]at ho ⊢;obtain⟨lc,hl,hm⟩:=ho;refine⟨lc,hl,?_⟩;cases lc with
         | nil=>simp only at hm ⊢;exact(List.append_eq_nil_iff.1 hm).1
         | blk b cap e=>
           obtain⟨he,hz,hc,arr,ty,ds,hb,hs,hr,ha⟩:=hm;obtain⟨d1,d2,ed,r1,r2⟩:=RelF.append.1 hr;subst ed;exact⟨he,fun x hx=>hz x (List.mem_append_left _ hx),by rw[qe]at hc;omega,arr,ty,d1,hb,hs,r1,(At.append.1 ha).1⟩
       | map es=>simp[AObj.short]at h2
       | glob e l=>simp[AObj.short]at h2
     | map es=>have e:o'= .map es:=h2;subst e;exact ho
     | glob e l=>have e:o'= .glob e l:=h2;subst e;exact ho
   sep:=fun k o' b hk hb=>by
     obtain⟨o,h1,h2⟩:=hH k o' hk;rw[h2.block]at hb;exact h.sep k o b h1 hb
   inj:=fun k k' o1 o2 b g1 g2 b1 b2=>by
     obtain⟨o,h1,h2⟩:=hH k o1 g1;obtain⟨p,h3,h4⟩:=hH k' o2 g2;rw[h2.block]at b1;rw[h4.block]at b2;exact h.inj k k' o p b h1 h3 b1 b2
   fresh:=fun k hk=>⟨by
     cases hh:H' k with
     | none=>rfl
     | some o=>
       obtain⟨o1,h1,_⟩:=hH k o hh;rw[(h.fresh k hk).1]at h1;simp at h1,(h.fresh k hk).2⟩
   vers:=fun k o' v hk hv=>by
     obtain⟨o,h1,h2⟩:=hH k o' hk;rw[h2.ver]at hv;exact h.vers k o v h1 hv}
 fr:= .refl _ _
 new:=fun b ⟨k,o',hk,hb⟩=>by
   obtain⟨o,h1,h2⟩:=hH k o' hk;rw[h2.block]at hb;exact .inl ⟨k,o,h1,hb⟩
theorem Zn.trim{P:Program}{f:FuncId}{args:List AV}{H:Heap}{n:Nat}{K K':ARes→Heap→Nat→Prop}(h:Zn P f args H n K)(hk:∀res H1 n1,K res H1 n1→∃H2:Heap,(∀k o',H2 k=some o'→∃o,H1 k=some o∧o.short o')∧K' res H2 n1):Zn P f args H n K':=
 fun c w vs hs hr=>(h c w vs hs hr).mono fun e w' ⟨res,c',H',n',V,hst,hm⟩=>by
   obtain⟨H2,h2,h3⟩:=hk _ _ _ V;exact⟨res,c',H2,n',h3,hst.trans (Step.trim hst.sim h2),hm⟩
def Heap.trim(L:Nat→Nat)(H:Heap):Heap:=fun k=>match H k with
 | some (.arr v e els)=>some (.arr v e (els.take (L k)))
 | o=>o
theorem R5{L:Nat→Nat}{H:Heap}{k v e:Nat}{els:List AV}(h:H k=some (.arr v e els)):Heap.trim L H k=some (.arr v e (els.take (L k))):=by unfold Heap.trim;rw[h]
theorem RV{L L':Nat→Nat}{H:Heap}{k:Nat}(h:L' k=L k):Heap.trim L' H k=Heap.trim L H k:=by unfold Heap.trim;rw[h]
theorem Sj{L:Nat→Nat}{H:Heap}{k:Nat}{o':AObj}(h:Heap.trim L H k=some o'):∃o,H k=some o∧o.short o':=by
 unfold Heap.trim at h;split at h
 ·rename_i v e els h1;cases h;exact⟨_,h1,rfl,rfl,els.drop (L k),(List.take_append_drop _ _).symm⟩
 ·exact⟨o',h,.refl _⟩
mutual
theorem Own.trim{H:Heap}{n:Nat}:∀{a b:AV} {ks:List Nat},Own H a b ks→ks.Nodup→(∀k∈ks,n≤k)→∃L:Nat→Nat,Own (Heap.trim L H) a b ks∧∀k∈ks,∃v e els,H k=some (.arr v e els)∧RG n (els.take (L k))
 | _,_,_,.nk h,_,_=>⟨fun _=>0,.nk h,fun k hk=>by simp at hk⟩
 | _,_,_,.nilsl,_,_=>⟨fun _=>0,.nilsl,fun k hk=>by simp at hk⟩
 | _,_,_,.osl (k:=k0) (len:=len) (ks:=ks) h1 h2 h3,hd,hn=>by
   have hk0:k0∉ks:=(List.nodup_cons.1 hd).1;obtain⟨L,g1,g2⟩:=OwnL.trim h3 (List.nodup_cons.1 hd).2 fun k h=>hn k (by simp[h]);refine⟨fun j=>if j=k0 then len else L j,.osl (els:=_) (by rw[R5 h1]) oz ?_,fun k hk=> ?_⟩
   ·simp only[if_true,List.take_take,Nat.min_self];exact g1.frame fun k h=>RV (by show(if k=k0 then len else L k)=L k;rw[if_neg (fun e:k=k0=>hk0 (e▸h))])
   ·rcases List.mem_cons.1 hk with rfl | hk
    ·exact⟨_,_,_,h1,by simp only[if_true];exact OwnL.fr h3 fun k h=>hn k (by simp[h])⟩
    ·obtain⟨v,e,els,q1,q2⟩:=g2 k hk;exact⟨v,e,els,q1,by show RG n (els.take (if k=k0 then len else L k));rw[if_neg (fun e:k=k0=>hk0 (e▸hk))];exact q2⟩
 | _,_,_,.agg h,hd,hn=>by obtain⟨L,g1,g2⟩:=OwnL.trim h hd hn;exact⟨L,.agg g1,g2⟩
 | _,_,_,.tup h,hd,hn=>by obtain⟨L,g1,g2⟩:=OwnL.trim h hd hn;exact⟨L,.tup g1,g2⟩
theorem OwnL.trim{H:Heap}{n:Nat}:∀{a b:List AV} {ks:List Nat},OwnL H a b ks→ks.Nodup→(∀k∈ks,n≤k)→∃L:Nat→Nat,OwnL (Heap.trim L H) a b ks∧∀k∈ks,∃v e els,H k=some (.arr v e els)∧RG n (els.take (L k))
 | _,_,_,.nil,_,_=>⟨fun _=>0,.nil,fun k hk=>by simp at hk⟩
 | _,_,_,.cons (ks:=ks) (js:=js) h1 h2,hd,hn=>by
   obtain⟨d1,d2,d3⟩:=List.nodup_append.1 hd;obtain⟨L1,g1,g2⟩:=Own.trim h1 d1 fun k h=>hn k (by simp[h]);obtain⟨L2,g3,g4⟩:=OwnL.trim h2 d2 fun k h=>hn k (by simp[h]);have e1:∀k∈ks,(if k∈ks then L1 k else L2 k)=L1 k:=fun k h=>if_pos h;have e2:∀k∈js,(if k∈ks then L1 k else L2 k)=L2 k:=fun k h=>if_neg fun h'=>d3 k h' k h rfl;refine⟨fun j=>if j∈ks then L1 j else L2 j,.cons (g1.frame fun k h=>RV (e1 k h)) (g3.frame fun k h=>RV (e2 k h)),fun k hk=> ?_⟩;rcases List.mem_append.1 hk with h | h
   ·obtain⟨v,e,els,q1,q2⟩:=g2 k h;exact⟨v,e,els,q1,by show RG n (els.take (if k∈ks then L1 k else L2 k));rw[e1 k h];exact q2⟩
   ·obtain⟨v,e,els,q1,q2⟩:=g4 k h;exact⟨v,e,els,q1,by show RG n (els.take (if k∈ks then L1 k else L2 k));rw[e2 k h];exact q2⟩
end
theorem OAns.lend{P:Program}{f:FuncId}{args args':List AV}{H H0:Heap}{n:Nat}{b:AV}(hG:Jq H H0)(hL:FrzL H 0 args args')(h:Zn P f args' H0 n (OAns H0 n b)):Zn P f args H n (OAns H n b):=by
 have h1:Zn P f args' H0 n (fun res H' n'=>OAns H0 n b res H' n'∧NewRes n H0 res H' n'):=h.trim fun res H1 n1 ⟨a,ks,hr,hm⟩=>by
   obtain⟨L,g1,g2⟩:=hm.own.trim hm.nd fun k hk=>(hm.lo k hk).1
   let H2:Heap:=fun k=>if k<n then H1 k else if k∈ks then Heap.trim L H1 k else none
   have hk2:∀k∈ks,H2 k=Heap.trim L H1 k:=fun k hk=>by
     have:=(hm.lo k hk).1;show(if k<n then H1 k else if k∈ks then Heap.trim L H1 k else none)=_;rw[if_neg om,if_pos hk]
   have hlow:∀k,k<n→H2 k=H0 k:=fun k hk=>(if_pos hk).trans (hm.low k hk);refine⟨H2,fun k o' hk=> ?_,⟨a,ks,hr,g1.frame hk2,hm.nd,hm.lo,hlow,hm.nn⟩,hm.nn,hlow,fun k o hn hk=> ?_,?_⟩
   ·replace hk:(if k<n then H1 k else if k∈ks then Heap.trim L H1 k else none)=some o':=hk
    split at hk
    ·exact⟨o',hk,.refl _⟩
    ·split at hk
     ·exact Sj hk
     ·cases hk
   ·replace hk:(if k<n then H1 k else if k∈ks then Heap.trim L H1 k else none)=some o:=hk
    rw[if_neg om]at hk;split at hk
    ·rename_i hks;obtain⟨v,e,els,q1,q2⟩:=g2 k hks;rw[R5 q1]at hk;cases hk;exact⟨v,e,_,rfl,q2⟩
    ·cases hk
   ·subst hr;exact Own.fr hm.own fun k hk=>(hm.lo k hk).1
 refine(Zn.lend hG hL h1 fun res H' n' V=>V.2).mono fun res H2 n2 ⟨H',⟨⟨a,ks,hr,hm⟩,_⟩,e⟩=> ?_;subst e;exact⟨a,ks,hr,hm.own.frame fun k hk=>by unfold Heap.over;rw[if_neg (by have:=(hm.lo k hk).1;omega)],hm.nd,hm.lo,fun k hk=>by unfold Heap.over;rw[if_pos hk],hm.nn⟩
theorem OAns.emp{H H':Heap}{n n':Nat}{a b:AV}(h:Own H' a b [])(hl:∀k,k<n→H' k=H k)(hn:n≤n'):OAns H n b (.val a) H' n':=⟨a,[],rfl,h,List.nodup_nil,fun k hk=>by simp at hk,hl,hn⟩
theorem OAns.one{H H':Heap}{n n' k:Nat}{a b:AV}(h:Own H' a b [k])(hk:n≤k∧k<n')(hl:∀k,k<n→H' k=H k)(hn:n≤n'):OAns H n b (.val a) H' n':=⟨a,[k],rfl,h,osi,fun j hj=>by simp at hj;omega,hl,hn⟩
theorem OAns.got{H H':Heap}{n n':Nat}{b r:AV}(h:OAns H n b (.val r) H' n'):∃ks,Mine H n b r ks H' n':=by
 obtain⟨a,ks,h1,h2⟩:=h;cases h1;exact⟨ks,h2⟩
theorem OAns.pan{H H':Heap}{n n':Nat}{b p:AV}(h:OAns H n b (.pan p) H' n'):False:=by
 obtain⟨a,ks,h1,_⟩:=h;cases h1
theorem Own.tupII{H:Heap}{a b:AV}{ks:List Nat}{i j:IntKind}{x y:Int}(h:Own H a b ks):Own H (.tup [a,.int i x,.int j y]) (.tup [b,.int i x,.int j y]) ks:=by
 have:=Own.tup (.cons h (.cons (.nk (a:= .int i x) trivial) (.cons (.nk (a:= .int j y) trivial) .nil)));simpa using this
theorem RZ{H:Heap}{a b:AV}{ks:List Nat}{j:IntKind}{x:Bool}{y:Int}(h:Own H a b ks):Own H (.tup [a,.bool x,.int j y]) (.tup [b,.bool x,.int j y]) ks:=by
 have:=Own.tup (.cons h (.cons (.nk (a:= .bool x) trivial) (.cons (.nk (a:= .int j y) trivial) .nil)));simpa using this
theorem RS{H:Heap}{a b:AV}{ks:List Nat}{j:IntKind}{y:Int}(h:Own H a b ks):Own H (.tup [a,.int j y]) (.tup [b,.int j y]) ks:=by
 have:=Own.tup (.cons h (.cons (.nk (a:= .int j y) trivial) .nil));simpa using this
theorem Sm{H:Heap}{a b:AV}{ks:List Nat}{j:IntKind}{y:Int}(h:Own H a b ks):Own H (.agg [.int j y,a]) (.agg [.int j y,b]) ks:=by
 have:=Own.agg (.cons (.nk (a:= .int j y) trivial) (.cons h .nil));simpa using this
theorem Own.sl_shape{H:Heap}{a:AV}{e:Nat}{ys:List AV}{ks:List Nat}(h:Own H a (.sl e ys) ks):a= .nilsl∨∃k ver len,a= .osl k ver 0 len:=by
 generalize hb:AV.sl e ys=b at h;cases h with
 | nk h=>subst hb;exact h.elim
 | nilsl=>exact .inl rfl
 | osl=>exact .inr ⟨_,_,_,rfl⟩
 | agg=>cases hb
 | tup=>cases hb
theorem Own.strip{H:Heap}{a:AV}{e:Nat}{ys:List AV}{ks:List Nat}(h:Own H a (.sl e ys) ks)(g:Bool):strip g a=a:=by
 rcases h.sl_shape with rfl | ⟨k,v,l,rfl⟩<;>cases g<;>rfl
theorem Own.sl_sz{H:Heap}{a:AV}{e:Nat}{ys:List AV}{ks:List Nat}(h:Own H a (.sl e ys) ks):a.sz=1∧a.isAgg=false∧a.memOK=true:=by
 rcases h.sl_shape with rfl | ⟨k,v,l,rfl⟩<;>exact⟨rfl,rfl,rfl⟩
theorem Own.tupI_shape{H:Heap}{a b:AV}{ks:List Nat}{j:IntKind}{y:Int}(h:Own H a (.tup [b,.int j y]) ks):∃c,a= .tup [c,.int j y]∧Own H c b ks:=by
 generalize hb:AV.tup [b,.int j y]=t at h;cases h with
 | nk h=>subst hb;exact h.elim
 | nilsl=>cases hb
 | osl=>cases hb
 | agg=>cases hb
 | tup h=>
   cases hb;cases h with
   | cons h1 h2=>
     cases h2 with
     | cons h3 h4=>
       cases h4 with
       | nil=>cases h3 with | nk h5=>exact⟨_,rfl,by simpa using h1⟩
theorem Own.tupII_shape{H:Heap}{a b:AV}{ks:List Nat}{i j:IntKind}{x y:Int}(h:Own H a (.tup [b,.int i x,.int j y]) ks):∃c,a= .tup [c,.int i x,.int j y]∧Own H c b ks:=by
 generalize hb:AV.tup [b,.int i x,.int j y]=t at h;exact kaN
theorem Own.aggI_shape{H:Heap}{a b:AV}{ks:List Nat}{j:IntKind}{y:Int}(h:Own H a (.agg [.int j y,b]) ks):∃c,a= .agg [.int j y,c]∧Own H c b ks:=by
 generalize hb:AV.agg [.int j y,b]=t at h;cases h with
 | nk h=>subst hb;exact h.elim
 | nilsl=>cases hb
 | osl=>cases hb
 | tup=>cases hb
 | agg h=>
   cases hb;cases h with
   | cons h1 h2=>
     cases h2 with
     | cons h3 h4=>
       cases h4 with
       | nil=>cases h1 with | nk _=>exact⟨_,rfl,by simpa using h3⟩
theorem Own.qLen{H:Heap}{a:AV}{e:Nat}{ys:List AV}{ks:List Nat}(h:Own H a (.sl e ys) ks)(P:Program)(t:TypeId):qLen P t a=some (Xt P t=true,.int .i64 ys.length):=by
 generalize hb:AV.sl e ys=b at h;cases h with
 | nk h=>subst hb;exact h.elim
 | nilsl=>cases hb;rfl
 | osl h1 h2 h3=>cases hb;have:=h3.len;rw[qk,Nat.min_eq_left h2]at this;simp only[Go.Sx.qLen,this]
 | agg=>cases hb
 | tup=>cases hb
theorem awp_trim{P:Program}{N:Nat}{code:Code}{T:Nat→AV}{H:Heap}{n:Nat}{Q:QK}(k len:Nat){v e:Nat}{els:List AV}(hk:H k=some (.arr v e els))(h:awp P N code T (H.put k (some (.arr v e (els.take len)))) n Q):awp P N code T H n Q:=
 Vf (fun c w tmps hs hr=>⟨c,Step.trim hs fun k' o' ho=>by
   unfold Heap.put at ho;split at ho
   ·rename_i e1;subst e1;cases ho;exact⟨_,hk,rfl,rfl,els.drop len,(List.take_append_drop len els).symm⟩
   ·exact⟨o',ho,.refl _⟩,hr⟩) h
structure LSl(ks:List Nat)(H:Heap)(a:AV)(e:Nat)(ys:List AV):Prop where
 l:Lnt ks H a (.sl e ys)
 st:∀g,strip g a=a
 sz:a.sz=1
 ag:a.isAgg=false
 mo:a.memOK=true
 len:∀P t,qLen P t a=some (Xt P t=true,.int .i64 ys.length)
theorem LSl.on{ks:List Nat}{H H':Heap}{a:AV}{e:Nat}{ys:List AV}(h:LSl ks H a e ys)(hk:∀k∈ks,H' k=H k):LSl ks H' a e ys:=⟨h.l.on hk,h.st,h.sz,h.ag,h.mo,h.len⟩
theorem Own.lsl{H:Heap}{a:AV}{e:Nat}{ys:List AV}{ks:List Nat}(h:Own H a (.sl e ys) ks):LSl ks H a e ys:=⟨h.lnt,h.strip,h.sl_sz.1,h.sl_sz.2.1,h.sl_sz.2.2,h.qLen⟩
theorem LSl.ro{ks:List Nat}{H:Heap}{e:Nat}{ys:List AV}(h:Rv 0 ys):LSl ks H (.sl e ys) e ys:=⟨Lnt.kl h,fun g=>by cases g<;>rfl,rfl,rfl,rfl,fun _ _=>rfl⟩
theorem Zn.frzS{P : Program}{f : FuncId}{args : List AV}{H : Heap}{n : Nat}{K K' : ARes → Heap → Nat → Prop}(h : Zn P f args H n K)
   (V:∀res H1 n1,K res H1 n1→∃(r r':AV) (S:Nat→Prop) (_:DecidablePred S),res= .val r∧FzO H1 S r r'∧K' (.val r') (H1.dropS S) n1):Zn P f args H n K':=by
 intro c w vs hs hr;refine(h c w vs hs hr).mono ?_;rintro e w' ⟨res,c',H',n',hk,hst,hm⟩;obtain⟨r,r',S,_,rfl,hf,hk'⟩:=V _ _ _ hk;refine⟨.val r',_,_,_,hk',hst.trans (Step.frzS (S:=S) hst.sim),?_⟩;cases e with
 | returned v=>exact hf.rel hst.sim hm
 | _=>exact hm.elim
theorem Heap.dropS_ne{S:Nat→Prop}[DecidablePred S]{H:Heap}{k:Nat}(h:¬S k):H.dropS S k=H k:=if_neg h
end Go.Sx
namespace Go.Rt
open Go Go.Sx
structure Pile(n0:Nat)(az bs:List AV)(ks:List Nat)(H:Heap)(n:Nat):Prop where
 own:OwnL H az bs ks
 nd:ks.Nodup
 lo:∀k∈ks,n0≤k∧k<n
theorem Pile.nil(n0:Nat)(H:Heap)(n:Nat):Pile n0 [] [] [] H n:=⟨.nil,List.nodup_nil,fun k h=>by simp at h⟩
theorem Pile.on{n0 n n2:Nat}{az bs:List AV}{ks:List Nat}{H H2:Heap}(h:Pile n0 az bs ks H n)(hH:∀k,n0≤k→k<n→H2 k=H k)(hn:n≤n2):Pile n0 az bs ks H2 n2:=
 ⟨h.own.frame fun k hk=>hH k (h.lo k hk).1 (h.lo k hk).2,h.nd,fun k hk=>⟨(h.lo k hk).1,Nat.lt_of_lt_of_le (h.lo k hk).2 hn⟩⟩
theorem Pile.add{n0 n n2:Nat}{az bs:List AV}{ks:List Nat}{H H2:Heap}{a b:AV}{js:List Nat}(h:Pile n0 az bs ks H n)(hH:∀k,n0≤k→k<n→H2 k=H k)(ho:Own H2 a b js)(hnd:js.Nodup)(hlo:∀k∈js,n≤k∧k<n2)(h0:n0≤n)(hn:n≤n2):Pile n0 (az++[a]) (bs++[b]) (ks++js) H2 n2 where
 own:=(h.own.frame fun k hk=>hH k (h.lo k hk).1 (h.lo k hk).2).snoc ho
 nd:=List.nodup_append.2 ⟨h.nd,hnd,fun a ha b hb e=>by have:=(h.lo a ha).2;have:=(hlo b hb).1;omega⟩
 lo:=fun k hk=>by
   rcases List.mem_append.1 hk with h1 | h1
   ·have:=h.lo k h1;omega
   ·have:=hlo k h1;omega
theorem Pile.list{kl n ver e len:Nat}{els ys:List AV}{ks:List Nat}{H:Heap}(h:Pile (kl+1) (els.take len) ys ks H n)(hk:H kl=some (.arr ver e els))(hl:len≤els.length)(hn:kl<n):Own H (.osl kl ver 0 len) (.sl e ys) (kl::ks)∧(kl::ks).Nodup∧∀k∈kl::ks,kl≤k∧k<n:=
 ⟨.osl hk hl h.own,List.nodup_cons.2 ⟨fun hm=>by have:=(h.lo _ hm).1;omega,h.nd⟩,fun k hk=>by
   rcases List.mem_cons.1 hk with rfl | hk
   ·exact⟨Nat.le_refl _,hn⟩
   ·have:=h.lo k hk;omega⟩
def marks:List UInt8:=[201,202,203]++List.replicate 70 206
theorem WW(l:List UInt8):∀x∈l.map Zd,x.nk:=fun x hx=>by
 obtain⟨b,_,rfl⟩:=List.mem_map.1 hx;trivial
theorem own_bytes{H:Heap}{k ver len:Nat}{l:List UInt8}(h:H k=some (.arr ver 1 (l.map Zd)))(hl:len≤l.length):Own H (.osl k ver 0 len) (bys (l.take len)) [k]:=
 .osl h (by simpa using hl) (by rw[←List.map_take];exact RD _ (WW _))
theorem own_laid{H:Heap}{k:Nat}{m x:List UInt8}{ver:Nat}(h:H k=some (.arr ver 1 ((m++x).map Zd))):Own H (.osl k ver 0 m.length) (bys m) [k]:=by
 have:=own_bytes (len:=m.length) h osi
 rwa [List.take_left]at this
theorem Own.nk_eq{H:Heap}{a b:AV}{ks:List Nat}(h:Own H a b ks)(hb:b.nk):a=b∧ks=[]:=by
 cases h with
 | nk _=>exact⟨rfl,rfl⟩
 | nilsl=>exact hb.elim
 | osl=>exact hb.elim
 | agg=>exact hb.elim
 | tup=>exact hb.elim
theorem OwnL.nk_eq{H:Heap}:∀{a b:List AV} {ks:List Nat},OwnL H a b ks→(∀x∈b,x.nk)→a=b∧ks=[]
 | _,_,_,.nil,_=>⟨rfl,rfl⟩
 | _,_,_,.cons h1 h2,h=>by
   obtain⟨e1,e2⟩:=Own.nk_eq h1 (h _ osi);obtain⟨e3,e4⟩:=OwnL.nk_eq h2 fun x hx=>h x (by simp[hx]);subst e1;subst e2;subst e3;subst e4;exact⟨rfl,rfl⟩
theorem Own.bytes{H:Heap}{a:AV}{l:List UInt8}{ks:List Nat}(h:Own H a (bys l) ks):(a= .nilsl∧l=[]∧ks=[])∨∃k v els,a= .osl k v 0 l.length∧ks=[k]∧H k=some (.arr v 1 els)∧els.take l.length=l.map Zd:=by
 unfold bys at h;generalize hb:AV.sl 1 (l.map Zd)=b at h;cases h with
 | nk h=>subst hb;exact h.elim
 | nilsl=>cases l with | nil=>exact .inl ⟨rfl,rfl,rfl⟩ | cons x l=>cases hb
 | osl h1 h2 h3=>
   cases hb;obtain⟨e1,e2⟩:=OwnL.nk_eq h3 (WW l);have:=congrArg List.length e1;rw[qk,Nat.min_eq_left h2,qb]at this;subst this;subst e2;exact .inr ⟨_,_,_,rfl,rfl,h1,e1⟩
 | agg=>cases hb
 | tup=>cases hb
def marks5:List UInt8:=[201,202,203,204,205]
def WM(p:Nat×List UInt8):AV:= .osl p.1 2 0 (p.2.length+5)
def Ud(p:Nat×List UInt8):AObj:= .arr 2 1 ((p.2++marks5).map Zd)
theorem NS{H:Heap}{k:Nat}{b:List UInt8}(h:H k=some (Ud (k,b))):Own H (.osl k 2 0 b.length) (bys b) [k]:=own_laid h
def UT(rows:List RowE)(err:Int)(m kw vw lw kt vt lt:Nat):AV:= .agg [.sl 2 (rows.map Zf),.int .i64 err,.int .i64 (m:Int),.osl kw vw 0 lw,.osl kt vt 0 lt]
structure SrcS(rows:List RowE)(err:Int)(ks kw kt lo m vw vt:Nat)(kb:List (Nat×List UInt8))(tels:List AV)(tk:List Nat)(H:Heap)(n:Nat):Prop where
 ho:H ks=some (.arr 0 5 [UT rows err m kw vw kb.length kt vt tels.length])
 hw:H kw=some (.arr vw 1 (kb.map WM))
 wb:∀p∈kb,H p.1=some (Ud p)
 wk:∀p∈kb,p.1∈tk
 wd:(kb.map (·.1)).Nodup
 ht:H kt=some (.arr vt 2 tels)
 told:Pile lo tels ((rows.take m).map Zf) tk H n
 d:ks≠kw∧ks≠kt∧kw≠kt∧ks<lo∧kw<lo∧kt<lo∧lo≤n
 wl:∀p∈kb,p.2.length≤1099511627776
theorem SrcS.on{rows:List RowE}{err:Int}{ks kw kt lo m vw vt:Nat}{kb:List (Nat×List UInt8)}{tels:List AV}{tk:List Nat}{H H2:Heap}{n n2:Nat}(h:SrcS rows err ks kw kt lo m vw vt kb tels tk H n)(hH:∀k,k=ks∨k=kw∨k=kt∨k∈tk→H2 k=H k)(hn:n≤n2):SrcS rows err ks kw kt lo m vw vt kb tels tk H2 n2 where
 ho:=(hH _ (.inl rfl)).trans h.ho
 hw:=(hH _ (.inr (.inl rfl))).trans h.hw
 wb:=fun p hp=>(hH _ (.inr (.inr (.inr (h.wk p hp))))).trans (h.wb p hp)
 wk:=h.wk
 wd:=h.wd
 ht:=(hH _ (.inr (.inr (.inl rfl)))).trans h.ht
 told:=⟨h.told.own.frame fun k hk=>hH k (.inr (.inr (.inr hk))),h.told.nd,fun k hk=>by have:=h.told.lo k hk;omega⟩
 d:=by have:=h.d;omega
 wl:=h.wl
structure NxS(rows:List RowE)(err:Int)(ks kw kt m:Nat)(r:RowE)(H0:Heap)(n0 vt:Nat)(kb0:List (Nat×List UInt8))(tels:List AV)(i vw vc:Nat)(kb:List (Nat×List UInt8))(els:List AV)(kcs:List Nat)(H:Heap)(n:Nat):Prop where
 ho:H ks=some (.arr 0 5 [UT rows err (m+1) kw vw kb.length kt vt tels.length])
 hr:H (n0+1)=some (.arr 0 2 [Zf r])
 hx:H (n0+2)=some (.arr 0 2 [.agg [.osl (n0+4) 2 0 r.row.length,.osl (n0+3) vc 0 els.length]])
 hc:H (n0+3)=some (.arr vc 4 els)
 hb:H (n0+4)=some (Ud (n0+4,r.row))
 hp:Pile (n0+5) els ((r.cells.take i).map Zj) kcs H n
 hw:H kw=some (.arr vw 1 (kb.map WM))
 wb:∀p∈kb,H p.1=some (Ud p)
 wk:∀p∈kb,p∈kb0∨p.1=n0+4∨p.1∈kcs
 wd:(kb.map (·.1)).Nodup
 low:∀k,k<n0→k≠ks→k≠kw→H k=H0 k
 lt:n0+5≤n
 le:els.length≤i∧kb.length≤kb0.length+1+2*i
 old:∀p∈kb0,p.1<n0
 wl:∀p∈kb,p.2.length≤1099511627776
theorem NxS.add{rows : List RowE}{err : Int}{ks kw kt m : Nat}{r : RowE}{H0 : Heap}{n0 vt : Nat}{kb0 : List (Nat × List UInt8)}{tels : List AV}{i vw vc : Nat}{kb : List (Nat × List UInt8)}{els : List AV}{kcs : List Nat}{H : Heap}{n : Nat}
   (h:NxS rows err ks kw kt m r H0 n0 vt kb0 tels i vw vc kb els kcs H n) {c:CelE} (hc:r.cells.take (i+1)=r.cells.take i++[c]) (hcl:c.qual.length≤1099511627776∧c.value.length≤1099511627776) (hks:ks<n0∧kw<n0∧ks≠kw) {H2:Heap} {n2 k1 k2:Nat} (hk:n≤k1∧k1<n2∧n≤k2∧k2<n2∧k1≠k2)
   (hH:∀k,k<n→k≠ks→k≠kw→k≠n0+2→k≠n0+3→H2 k=H k) (h1:H2 k1=some (Ud (k1,c.qual))) (h2:H2 k2=some (Ud (k2,c.value)))
   (ho:H2 ks=some (.arr 0 5 [UT rows err (m+1) kw (vw+1) (kb.length+2) kt vt tels.length])) (hw:H2 kw=some (.arr (vw+1) 1 (kb.map WM++[WM (k1,c.qual),WM (k2,c.value)])))
   (hx:H2 (n0+2)=some (.arr 0 2 [.agg [.osl (n0+4) 2 0 r.row.length,.osl (n0+3) (vc+1) 0 (els.length+1)]])) (hcc:H2 (n0+3)=some (.arr (vc+1) 4 (els++[.agg [.int .i64 c.fam,.osl k1 2 0 c.qual.length,.int .i64 c.ts,.osl k2 2 0 c.value.length]]))):
   NxS rows err ks kw kt m r H0 n0 vt kb0 tels (i+1) (vw+1) (vc+1) (kb++[(k1,c.qual),(k2,c.value)]) (els++[.agg [.int .i64 c.fam,.osl k1 2 0 c.qual.length,.int .i64 c.ts,.osl k2 2 0 c.value.length]]) (kcs++[k1,k2]) H2 n2 where
 ho:=by rw[qe];exact ho
 hr:=(hH _ (by have:=h.lt;omega) om om om om).trans h.hr
 hx:=by rw[qe];exact hx
 hc:=hcc
 hb:=(hH _ (by have:=h.lt;omega) om om om om).trans h.hb
 hp:=by
   rw[hc,qj];have:=h.lt;refine h.hp.add (fun k a b=>hH k b om om om om) (Own.agg ?_) ?_ (fun k hk=> ?_) om om
   ·have:=OwnL.cons (.nk (a:= .int .i64 c.fam) trivial) (.cons (NS h1) (.cons (.nk (a:= .int .i64 c.ts) trivial) (.cons (NS h2) .nil)));simpa using this
   ·simp;omega
   ·simp at hk;omega
 hw:=by rw[qj];exact hw
 wb:=fun p hp=>by
   rcases List.mem_append.1 hp with h3 | h3
   ·have h4:=h.wb p h3;have:p.1<n∧p.1≠ks∧p.1≠kw∧p.1≠n0+2∧p.1≠n0+3:=by
      have:=h.lt;rcases h.wk p h3 with h5 | h5 | h5
      ·have:=h.old p h5;refine⟨om,fun e=> ?_,fun e=> ?_,om,om⟩
       ·rw[e,h.ho]at h4;simp[Ud]at h4
       ·rw[e,h.hw]at h4;simp only[Ud,Option.some.injEq,AObj.arr.injEq]at h4;cases hkb:kb with
        | nil=>rw[hkb]at h3;cases h3
        | cons q l=>rw[hkb]at h4;have:=h4.2.2;cases hp2:p.2<;>rw[hp2]at this<;>simp[WM,Zd,marks5]at this
      ·omega
      ·have:=h.hp.lo _ h5;omega
    exact(hH _ this.1 this.2.1 this.2.2.1 this.2.2.2.1 this.2.2.2.2).trans h4
   ·simp only[List.mem_cons,List.not_mem_nil,or_false]at h3;rcases h3 with rfl | rfl
    ·exact h1
    ·exact h2
 wk:=fun p hp=>by
   rcases List.mem_append.1 hp with h3 | h3
   ·rcases h.wk p h3 with h5 | h5 | h5
    ·exact .inl h5
    ·exact .inr (.inl h5)
    ·exact .inr (.inr (List.mem_append_left _ h5))
   ·simp only[List.mem_cons,List.not_mem_nil,or_false]at h3;rcases h3 with rfl | rfl<;>exact .inr (.inr (List.mem_append_right _ osi))
 wd:=by
   rw[qj];refine List.nodup_append.2 ⟨h.wd,oz,fun a ha b hb e=> ?_⟩;obtain⟨p,h3,rfl⟩:=List.mem_map.1 ha;have:p.1<n:=by
     have:=h.lt;rcases h.wk p h3 with h5 | h5 | h5
     ·have:=h.old p h5;omega
     ·omega
     ·have:=h.hp.lo _ h5;omega
   simp at hb;omega
 low:=fun k h1 h2 h3=>(hH k (by have:=h.lt;omega) h2 h3 om om).trans (h.low k h1 h2 h3)
 lt:=by have:=h.lt;omega
 le:=by have:=h.le;simp only[qe,qi,List.length_nil];omega
 old:=h.old
 wl:=fun p hp=>by
   rcases List.mem_append.1 hp with h3 | h3
   ·exact h.wl p h3
   ·simp only[List.mem_cons,List.not_mem_nil,or_false]at h3;rcases h3 with rfl | rfl
    ·exact hcl.1
    ·exact hcl.2
theorem SrcS.past{rows:List RowE}{err:Int}{ks kw kt lo m vw vt:Nat}{kb:List (Nat×List UInt8)}{tels:List AV}{tk:List Nat}{H H2:Heap}{n n2:Nat}(h:SrcS rows err ks kw kt lo m vw vt kb tels tk H n)(hm:¬m<rows.length)(hH:∀k,k<n→k≠ks→H2 k=H k)(ho:H2 ks=some (.arr 0 5 [UT rows err (m+1) kw vw kb.length kt vt tels.length]))(hn:n≤n2):SrcS rows err ks kw kt lo (m+1) vw vt kb tels tk H2 n2 where
 ho:=ho
 hw:=(hH _ (by have:=h.d;omega) (by have:=h.d;omega)).trans h.hw
 wb:=fun p hp=>(hH _ (by have:=h.told.lo _ (h.wk p hp);omega) (by have:=h.told.lo _ (h.wk p hp);have:=h.d;omega)).trans (h.wb p hp)
 wk:=h.wk
 wd:=h.wd
 ht:=(hH _ (by have:=h.d;omega) (by have:=h.d;omega)).trans h.ht
 told:=by
   have:=h.told.on (H2:=H2) (n2:=n2) (fun k h1 h2=>hH k h2 (by have:=h.d;omega)) hn;rw[List.take_of_length_le om]at this ⊢;exact this
 d:=by have:=h.d;omega
 wl:=h.wl
section
variable {rows:List RowE}{err:Int}{ks kw kt m:Nat}{r:RowE}{H0:Heap}{n0 vt:Nat}{kb0:List (Nat×List UInt8)}{tels:List AV}{vw vc:Nat}{kb:List (Nat×List UInt8)}{els:List AV}{kcs:List Nat}{H:Heap}{n:Nat}
def Lv(r:RowE)(n0 vc le:Nat):AV:= .agg [.osl (n0+4) 2 0 r.row.length,.osl (n0+3) vc 0 le]
theorem NxS.own(h:NxS rows err ks kw kt m r H0 n0 vt kb0 tels r.cells.length vw vc kb els kcs H n){H2:Heap}(hH:∀k,n0+3≤k→k<n→H2 k=H k):Own H2 (Lv r n0 vc els.length) (Zf r) ((n0+4)::(n0+3)::kcs)∧((n0+4)::(n0+3)::kcs).Nodup∧∀k∈(n0+4)::(n0+3)::kcs,n0<k∧k<n:=by
 have hn:=h.lt;have hl:=fun k hk=>h.hp.lo k hk;refine⟨?_,?_,fun k hk=> ?_⟩
 ·have hp:=h.hp;rw[List.take_of_length_le (Nat.le_refl _)]at hp;have o1:Own H2 (.osl (n0+3) vc 0 els.length) (.sl 4 (r.cells.map Zj)) ((n0+3)::kcs):=
    .osl ((hH _ om om).trans h.hc) (Nat.le_refl _) (by rw[List.take_of_length_le (Nat.le_refl _)];exact hp.own.frame fun k hk=>hH k (by have:=hl k hk;omega) (hl k hk).2)
  have:=Own.agg (.cons (NS ((hH _ om om).trans h.hb)) (.cons o1 .nil));simpa [Lv,Zf]using this
 ·refine List.nodup_cons.2 ⟨fun hm=> ?_,List.nodup_cons.2 ⟨fun hm=>by have:=hl _ hm;omega,h.hp.nd⟩⟩;rcases List.mem_cons.1 hm with e | e
  ·omega
  ·have:=hl _ e;omega
 ·rcases List.mem_cons.1 hk with rfl | hk
  ·omega
  rcases List.mem_cons.1 hk with rfl | hk
  ·omega
  ·have:=hl k hk;omega
theorem NxS.done{lo vw0 : Nat}{tk : List Nat}(h : NxS rows err ks kw kt m r H0 n0 vt kb0 tels r.cells.length vw vc kb els kcs H n)(hs : SrcS rows err ks kw kt lo m vw0 vt kb0 tels tk H0 n0)(htk : rows.take (m + 1) = rows.take m ++ [r]){H2 : Heap}{n2 : Nat}
   (hH:∀k,k<n→k≠ks→k≠kt→k≠n0→H2 k=H k) (hn:n≤n2) (ht:H2 kt=some (.arr (vt+1) 2 (tels++[Lv r n0 vc els.length]))) (ho:H2 ks=some (.arr 0 5 [UT rows err (m+1) kw vw kb.length kt (vt+1) (tels.length+1)])):
   SrcS rows err ks kw kt lo (m+1) vw (vt+1) kb (tels++[Lv r n0 vc els.length]) (tk++((n0+4)::(n0+3)::kcs)) H2 n2:=by
 obtain⟨d1,d2,d3,d4,d5,d6,d7⟩:=hs.d;have hlt:=h.lt;obtain⟨o1,o2,o3⟩:=h.own (H2:=H2) (fun k a b=>hH k b om om om);have hkr:∀p∈kb,lo≤p.1∧p.1<n∧p.1≠n0:=fun p hp=>by
   rcases h.wk p hp with h1 | h1 | h1
   ·have:=h.old p h1;have:=hs.told.lo _ (hs.wk p h1);omega
   ·omega
   ·have:=h.hp.lo _ h1;omega
 exact{
   ho:=by rw[qe];exact ho
   hw:=(hH _ om om om om).trans h.hw
   wb:=fun p hp=>by have:=hkr p hp;exact(hH _ om om om om).trans (h.wb p hp)
   wk:=fun p hp=>by
     rcases h.wk p hp with h1 | h1 | h1
     ·exact List.mem_append_left _ (hs.wk p h1)
     ·rw[h1];exact List.mem_append_right _ osi
     ·exact List.mem_append_right _ (by simp[h1])
   wd:=h.wd
   ht:=ht
   told:=by
     rw[htk,qj];exact hs.told.add (fun k a b=>(hH k om om om om).trans (h.low k b om om)) o1 o2 (fun k hk=>by have:=o3 k hk;omega) d7 om
   d:=⟨d1,d2,d3,d4,d5,d6,om⟩
   wl:=h.wl}
end
end Go.Rt
namespace Go.Sx
open Go
section
variable {P:Program}{z:TypeId→AV}{N:Nat}{ops:Array Oper}
theorem NR{i j : Nat}{oi oj : Oper}{ki kj : DK}(hoi : ops[i]? = some oi)(hoj : ops[j]? = some oj)(hp : pairB ops.toList N i j oi oj ki kj = true)(hself : (selfB ops.toList oi = true ∨ ki.isW = true)):
   Jp ops N i ki j kj∧(kj.isW=true→ki= .m∨i∈kj.inc):=by
 have hdisj:∀{d:Option Tmp} {l:List Nat},disj d.toList l=true→∀x,d=some x→x∉l:=fun h x hx=>UY h (by simp[hx]);unfold pairB at hp;rw[Bool.and_eq_true]at hp;obtain⟨hap,hp⟩:=hp;have hA:=apartB_spec hap;have hs:ki.isW=false→∀d,oi.dst=some d→d∉looks (ops:=ops) oi:=fun hk d hd=>by
   rw[hk]at hself;have:=hself.resolve_right osi;rw[←VH];exact hdisj this d hd
 have mres:ki.isW=false→kj.isW=false→Jp ops N i ki j kj:=fun a b=>⟨oi,oj,hoi,hoj,hA,.inl ⟨a,b⟩⟩;cases kj with
 | a key inc=>
   cases ki with
   | w inc'=>simp at hp
   | a key' inc'=>simp at hp
   | m=>exact⟨⟨oi,oj,hoi,hoj,hA,.inr (.inl ⟨rfl,rfl,hs rfl,.inl rfl⟩)⟩,fun _=> .inl rfl⟩
   | q=>
     simp only[Bool.and_eq_true,Bool.or_eq_true,Bool.not_eq_true']at hp;refine⟨⟨oi,oj,hoi,hoj,hA,.inr (.inl ⟨rfl,rfl,hs rfl,.inr ?_⟩)⟩,fun _=> .inr (by simpa [DK.inc]using hp.1)⟩;rcases hp.2 with h | h
     ·left;cases hd:oi.dst<;>simp_all
     ·right;intro fo args ts e;rw[e]at h;simp[JE]at h
   | c=>
     simp only[Bool.and_eq_true,Bool.or_eq_true,Bool.not_eq_true']at hp;refine⟨⟨oi,oj,hoi,hoj,hA,.inr (.inl ⟨rfl,rfl,hs rfl,.inr ?_⟩)⟩,fun _=> .inr (by simpa [DK.inc]using hp.1)⟩;rcases hp.2 with h | h
     ·left;cases hd:oi.dst<;>simp_all
     ·right;intro fo args ts e;rw[e]at h;simp[JE]at h
 | w inc=>
   cases ki with
   | w inc'=>simp at hp
   | a key' inc'=>simp at hp
   | m=>exact⟨⟨oi,oj,hoi,hoj,hA,.inr (.inl ⟨rfl,rfl,hs rfl,.inl rfl⟩)⟩,fun _=> .inl rfl⟩
   | q=>
     simp only[Bool.and_eq_true,Bool.or_eq_true,Bool.not_eq_true']at hp;refine⟨⟨oi,oj,hoi,hoj,hA,.inr (.inl ⟨rfl,rfl,hs rfl,.inr ?_⟩)⟩,fun _=> .inr (by simpa [DK.inc]using hp.1)⟩;rcases hp.2 with h | h
     ·left;cases hd:oi.dst<;>simp_all
     ·right;intro fo args ts e;rw[e]at h;simp[JE]at h
   | c=>
     simp only[Bool.and_eq_true,Bool.or_eq_true,Bool.not_eq_true']at hp;refine⟨⟨oi,oj,hoi,hoj,hA,.inr (.inl ⟨rfl,rfl,hs rfl,.inr ?_⟩)⟩,fun _=> .inr (by simpa [DK.inc]using hp.1)⟩;rcases hp.2 with h | h
     ·left;cases hd:oi.dst<;>simp_all
     ·right;intro fo args ts e;rw[e]at h;simp[JE]at h
 | m=>
   cases ki with
   | w inc'=>
     simp only[Bool.and_eq_true]at hp;obtain⟨⟨⟨p1,p2⟩,p3⟩,p4⟩:=hp;refine⟨⟨oi,oj,hoi,hoj,hA,.inr (.inr ⟨rfl,rfl,?_,?_,?_,fun q hq o ho d hd=> ?_⟩)⟩,fun h=>by simp[DK.isW]at h⟩
     ·unfold isMove at p1;split at p1
      ·rename_i x e;exact⟨x,e⟩
      ·simp at p1
     ·simpa using p2
     ·cases hd:oj.dst with
      | none=>trivial
      | some d=>rw[hd]at p3;show d<N;exact of_decide_eq_true p3
     ·have hn:=hdisj p4 d hd;have:∀x,x∈WX ops.toList o++o.dst.toList→d≠x:=fun x hx e=>hn (List.mem_flatMap.2 ⟨q,hq,by simp only[Array.getElem?_toList,ho];rw[e];exact hx⟩);refine⟨fun hm=> ?_,fun e=> ?_⟩
      ·rw[←VH]at hm;exact this d (List.mem_append_left _ hm) rfl
      ·exact this d (List.mem_append_right _ (by simp[e])) rfl
   | a key' inc'=>
     simp only[Bool.and_eq_true]at hp;obtain⟨⟨⟨p1,p2⟩,p3⟩,p4⟩:=hp;refine⟨⟨oi,oj,hoi,hoj,hA,.inr (.inr ⟨rfl,rfl,?_,?_,?_,fun q hq o ho d hd=> ?_⟩)⟩,fun h=>by simp[DK.isW]at h⟩
     ·unfold isMove at p1;split at p1
      ·rename_i x e;exact⟨x,e⟩
      ·simp at p1
     ·simpa using p2
     ·cases hd:oj.dst with
      | none=>trivial
      | some d=>rw[hd]at p3;show d<N;exact of_decide_eq_true p3
     ·have hn:=hdisj p4 d hd;have:∀x,x∈WX ops.toList o++o.dst.toList→d≠x:=fun x hx e=>hn (List.mem_flatMap.2 ⟨q,hq,by simp only[Array.getElem?_toList,ho];rw[e];exact hx⟩);refine⟨fun hm=> ?_,fun e=> ?_⟩
      ·rw[←VH]at hm;exact this d (List.mem_append_left _ hm) rfl
      ·exact this d (List.mem_append_right _ (by simp[e])) rfl
   | m=>exact⟨mres rfl rfl,fun h=>by simp[DK.isW]at h⟩
   | q=>exact⟨mres rfl rfl,fun h=>by simp[DK.isW]at h⟩
   | c=>exact⟨mres rfl rfl,fun h=>by simp[DK.isW]at h⟩
 | q=>
   cases ki with
   | w inc'=>simp at hp
   | a key' inc'=>simp at hp
   | m=>exact⟨mres rfl rfl,fun h=>by simp[DK.isW]at h⟩
   | q=>exact⟨mres rfl rfl,fun h=>by simp[DK.isW]at h⟩
   | c=>exact⟨mres rfl rfl,fun h=>by simp[DK.isW]at h⟩
 | c=>
   cases ki with
   | w inc'=>simp at hp
   | a key' inc'=>simp at hp
   | m=>exact⟨mres rfl rfl,fun h=>by simp[DK.isW]at h⟩
   | q=>exact⟨mres rfl rfl,fun h=>by simp[DK.isW]at h⟩
   | c=>exact⟨mres rfl rfl,fun h=>by simp[DK.isW]at h⟩
theorem zip_edges{l:List Oper}(h:(l.zipIdx.all fun(o,i)=>(ZZ o).all fun e=>decide (e<i))=true):∀i o,l.toArray[i]? =some o→∀e∈ZZ o,e<i:=fun i o ho e he=>by
 have:=List.all_eq_true.1 h (o,i) (WL _ _ _ (by simpa using ho));exact kb9
theorem Wl(hed : ∀ i o, ops[i]? = some o → ∀ e ∈ ZZ o, e < i){listed : Array Bool}(hcl : ∀ i o, ops[i]? = some o → listed.getD i true = true → ∀ e ∈ ZZ o, listed.getD e true = true)
   (i:Nat) (o:Oper) (ho:ops[i]? =some o) (hi:∀e∈ZZ o,listed.getD e true=true) (p:Nat) (hp:YC (ancs [] ops.toList) p i=true):listed.getD p true=true:=by
 induction i using Nat.strongRecOn generalizing o with
 | _ i ih=>
   obtain⟨e,he,h⟩:=JO ops.toList [] i o (by simpa using ho) (by simpa using hed i o ho) p (by simpa [YC]using hp);rcases h with rfl | h
   ·exact hi _ he
   ·have hlt:=hed i o ho e he;have hsz:i<ops.size:=by
      exact kbh
    have hoe:ops[e]? =some (ops[e]'om):=Array.getElem?_eq_getElem om;exact ih e hlt _ hoe (hcl e _ hoe (hi e he)) (by simpa [YC]using h)
theorem LJ(hed:∀i o,ops[i]? =some o→∀e∈ZZ o,e<i)(listed:Array Bool)(hsz:listed.size=ops.size)(i:Nat):i∈Region.ready .any ops listed↔i<ops.size∧listed.getD i true=false∧∀o,ops[i]? =some o→∀e∈ZZ o,listed.getD e true=true:=by
 unfold Region.ready;rw[List.mem_filter,List.mem_range];refine and_congr_right fun hi=> ?_;have hoi:ops[i]? =some ops[i]:=Array.getElem?_eq_getElem hi;have hdef:∀e∈ZZ ops[i],listed.getD e false=listed.getD e true:=fun e he=>by
   have:=hed i _ hoi e he;simp[show e<listed.size by omega]
 exact kae
theorem Lt(hed : ∀ i o, ops[i]? = some o → ∀ e ∈ ZZ o, e < i){St : Array Bool → KT}{Q : QK}
   (hend:∀listed T H n,listed.size=ops.size→(∀i,i<ops.size→listed.getD i true=true)→St listed T H n→Q .normal T H n)
   (hstep:∀(listed:Array Bool) T H n i,listed.size=ops.size→(∀i o,ops[i]? =some o→listed.getD i true=true→∀e∈ZZ o,listed.getD e true=true)→St listed T H n→i<ops.size→listed.getD i true=false→(∀o,ops[i]? =some o→∀e∈ZZ o,listed.getD e true=true)→
     ∃k I,Z0 P z N ops i k I T H n (fun T' H' n'=>St (listed.setIfInBounds i true) T' H' n') Q) {ds:List Deferred} {c0:Ctx} {H0:Heap} {w0:World}:
   ∀(fuel:Nat) (listed:Array Bool),listed.size=ops.size→(rest ops listed).length=fuel→(∀i o,ops[i]? =some o→listed.getD i true=true→∀e∈ZZ o,listed.getD e true=true)→
     ∀(c:Ctx) (w:World) (a:Act) (T:Nat→AV) (H:Heap) (n:Nat),Step c0 H0 w0 c H n w→ZJ c T a.tmps→a.tmps.size=N→a.defers=ds→
       St listed T H n→wpAny P .any ops (Jt N ds c0 H0 w0 Q) fuel listed a w
 | 0,listed,hsz,hlen,hcl,c,w,a,T,H,n,hst,hr,hN,hd,h=>by
   have hnil:rest ops listed=[]:=List.length_eq_zero_iff.1 hlen;have hall:∀i,i<ops.size→listed.getD i true=true:=fun i hi=>by
     cases hh:listed.getD i true with
     | true=>rfl
     | false=>
       have:i∈rest ops listed:=List.mem_filter.2 ⟨List.mem_range.2 hi,by simp only[hh];rfl⟩;rw[hnil]at this;cases this
   refine⟨?_,.normal,c,T,H,n,hend _ _ _ _ hsz hall h,trivial,hst,hr,hN,hd⟩;rw[List.eq_nil_iff_forall_not_mem];intro i hi;obtain⟨h1,h2,_⟩:=(LJ hed listed hsz i).1 hi;rw[hall i h1]at h2;cases h2
 | fuel+1,listed,hsz,hlen,hcl,c,w,a,T,H,n,hst,hr,hN,hd,h=>by
   have hmem:∀i,i∈rest ops listed↔i<ops.size∧listed.getD i true=false:=fun i=>by
     unfold rest;rw[List.mem_filter,List.mem_range];simp
   have hsorted:(rest ops listed).Pairwise (· <·):=List.Pairwise.filter _ List.pairwise_lt_range;refine⟨fun hnone=> ?_,fun i hi=> ?_⟩
   ·exfalso;cases hrest:rest ops listed with
    | nil=>rw[hrest]at hlen;simp at hlen
    | cons i l=>
      obtain⟨h1,h2⟩:=(hmem i).1 (by rw[hrest];simp);have hready:i∈Region.ready .any ops listed:=(LJ hed listed hsz i).2 ⟨h1,h2,fun o ho e he=>by
        have hlt:=hed i o ho e he;cases hle:listed.getD e true with
        | true=>rfl
        | false=>
          have:e∈rest ops listed:=(hmem e).2 ⟨om,hle⟩;rw[hrest]at this hsorted;rcases List.mem_cons.1 this with e1 | e1
          ·omega
          ·have:=(List.pairwise_cons.1 hsorted).1 e e1;omega⟩
      rw[hnone]at hready;simp at hready
   ·obtain⟨h1,h2,h3⟩:=(LJ hed listed hsz i).1 hi;obtain⟨k,I,hs⟩:=hstep listed T H n i hsz hcl h h1 h2 h3;refine dstep_sound hs hst hr hN hd fun T' c' H' n' a' w' V hst' hr' hN' hd'=> ?_;have hget:∀k,(listed.setIfInBounds i true).getD k true=if k=i then true else listed.getD k true:=fun k=>by
      exact kap
    have hlen':(rest ops (listed.setIfInBounds i true)).length=fuel:=by
      have e1:rest ops (listed.setIfInBounds i true)=(rest ops listed).filter (· !=i):=by
        unfold rest;exact kaH
      have hnd:(rest ops listed).Nodup:=hsorted.imp fun h=>om;rw[e1,←List.Nodup.erase_eq_filter hnd,List.length_erase_of_mem ((hmem i).2 ⟨h1,h2⟩),hlen];rfl
    refine Lt hed hend hstep fuel _ (by simp[hsz]) hlen' (fun k o ho hk e he=> ?_) c' w' a' T' H' n' hst' hr' hN' hd' V;rw[hget]at hk ⊢;split
    ·rfl
    ·by_cases ek:k=i
     ·subst ek;exact h3 o ho e he
     ·rw[if_neg ek]at hk;exact hcl k o ho hk e he
structure Vt(ops:Array Oper)(N:Nat)(x:Nat)(ks:List DK)(ord:List Nat)(pos:Nat→Nat):Prop where
 mem:∀i,i∈ord↔i<ops.size∧i≠x
 srt:ord.Pairwise fun a b=>pos a<pos b
 lin:∀i o,i≠x→ops[i]? =some o→∀e∈ZZ o,e≠x→pos e<pos i
 len:ks.length=ops.size
 edges:∀i o,ops[i]? =some o→∀e∈ZZ o,e<i
 xe:∀o,ops[x]? =some o→ZZ o=[]
 pair:∀i j ki kj,i≠x→j≠x→pos i<pos j→ks[i]? =some ki→ks[j]? =some kj→YC (ancs [] ops.toList) i j=false→Jp ops N i ki j kj∧(kj.isW=true→ki= .m∨i∈kj.inc)
 inc:∀j kj,j≠x→ks[j]? =some kj→∀q∈kj.inc,(pos q<pos j∧q<ops.size∧q≠x)∧∀p,p<ops.size→p≠x→pos p<pos j→p≠q→YC (ancs [] ops.toList) p q=false→Uc ops p q
section
variable {ks:List DK}{ord:List Nat}{pos:Nat→Nat}{x:Nat}
theorem Vt.anc0(hc:Vt ops N x ks ord pos){o:Oper}(ho:ops[x]? =some o)(p:Nat):YC (ancs [] ops.toList) p x=false:=by
 cases h:YC (ancs [] ops.toList) p x with
 | false=>rfl
 | true=>
   obtain⟨e,h1,_⟩:=JO ops.toList [] x o (by simpa using ho) (by simpa using hc.edges x o ho) p (by simpa [YC]using h);rw[hc.xe o ho]at h1;cases h1
theorem Vt.ancPos(hc:Vt ops N x ks ord pos):∀(q:Nat) (o:Oper),q≠x→ops[q]? =some o→∀y,y≠x→YC (ancs [] ops.toList) y q=true→pos y<pos q:=by
 intro q
 induction q using Nat.strongRecOn with
 | _ q ih=>
   intro o hqx ho y hyx hy;obtain⟨e,he,h⟩:=JO ops.toList [] q o (by simpa using ho) (by simpa using hc.edges q o ho) y (by simpa [YC]using hy);have hlt:=hc.edges q o ho e he;rcases h with rfl | h
   ·exact hc.lin q o hqx ho _ he hyx
   ·by_cases hex:e=x
    ·subst hex;have hqs':q<ops.size:=by
       exact kaM
     have:=hc.anc0 (Array.getElem?_eq_getElem (show e<ops.size by omega)) y;rw[show YC (ancs [] ops.toList) y e=true by simpa [YC]using h]at this;cases this
    ·have hlt3:=hc.lin q o hqx ho e he hex;have hqs':q<ops.size:=by
       exact kaM
     have:=ih e hlt _ hex (Array.getElem?_eq_getElem (show e<ops.size by omega)) y hyx (by simpa [YC]using h);omega
theorem memP{listed:Array Bool}(i:Nat):i∈Z8 ord listed↔i∈ord∧listed.getD i true=false:=by unfold Z8;rw[List.mem_filter];simp
theorem LG{listed:Array Bool}(hsz:listed.size=ops.size){i:Nat}(h1:i<ops.size){pre post:List Nat}(hnd:(Z8 ord listed).Nodup)(hs:Z8 ord listed=pre++i::post):Z8 ord (listed.setIfInBounds i true)=pre++post:=by
 have hget:∀k,(listed.setIfInBounds i true).getD k true=if k=i then true else listed.getD k true:=fun k=>by
   exact kap
 have e1:Z8 ord (listed.setIfInBounds i true)=(Z8 ord listed).filter (· !=i):=by
   unfold Z8;exact kaH
 rw[e1,hs,List.filter_append,List.filter_cons];rw[hs,List.nodup_append]at hnd;have ep:pre.filter (· !=i)=pre:=List.filter_eq_self.2 fun p hp=>by have:=hnd.2.2 p hp i osi;simpa using this
 have eq:post.filter (· !=i)=post:=List.filter_eq_self.2 fun p hp=>by have:=(List.nodup_cons.1 hnd.2.1).1;simp;intro e;rw[e]at hp;exact this hp
 simp[ep,eq]
theorem restP_other{listed:Array Bool}{i:Nat}(hi:i∉ord):Z8 ord (listed.setIfInBounds i true)=Z8 ord listed:=by
 unfold Z8;apply List.filter_congr;intro k hk;have:k≠i:=fun e=>hi (e▸hk);simp only[Array.getD_eq_getD_getElem?,Array.getElem?_setIfInBounds];simp[Ne.symm this]
theorem stepX(hc : Vt ops N x ks ord pos){Q : QK}(hpan : ∀ p T T' H n, Q (.pan p) T H n → Q (.pan p) T' H n){listed : Array Bool}(hcl : ∀ i o, ops[i]? = some o → listed.getD i true = true → ∀ e ∈ ZZ o, listed.getD e true = true)
   {i:Nat} (h1:i<ops.size) (hix:i≠x) (h3:∀o,ops[i]? =some o→∀e∈ZZ o,listed.getD e true=true) {pre post:List Nat} (hsplit:Z8 ord listed=pre++i::post)
   {its:List (Nat×DK×List Nat)} {T:Nat→AV} {H:Heap} {n:Nat} (h:drun P z N ops (pre.map (item ks)++item ks i::its) T H n Q):
   ∃I',Z0 P z N ops i (ks.getD i .m) I' T H n (fun T H n=>drun P z N ops (pre.map (item ks)++its) T H n Q) Q:=by
 have hsorted:(Z8 ord listed).Pairwise (fun a b=>pos a<pos b):=List.Pairwise.filter _ hc.srt;have hmem:∀i,i∈Z8 ord listed↔(i<ops.size∧i≠x)∧listed.getD i true=false:=fun i=>by rw[memP,hc.mem]
 have hoi:ops[i]? =some ops[i]:=Array.getElem?_eq_getElem h1;have hks:∀p,p<ops.size→ks[p]? =some (ks.getD p .m):=fun p hp=>by
   exact kbs
 rw[hsplit]at hsorted;have hsort2:=List.pairwise_append.1 hsorted;have hpre:∀p∈pre,pos p<pos i∧(p<ops.size∧p≠x)∧listed.getD p true=false:=fun p hp=>by
   exact kcp
 have hnanc:∀p∈pre,YC (ancs [] ops.toList) p i=false:=fun p hp=>by
   cases hh:YC (ancs [] ops.toList) p i with
   | false=>rfl
   | true=>
     have:=Wl hc.edges hcl i _ hoi (h3 _ hoi) p hh;rw[(hpre p hp).2.2]at this;simp at this
 have hpairs:∀p∈pre,Jp ops N p (ks.getD p .m) i (ks.getD i .m)∧((ks.getD i .m).isW=true→ks.getD p .m= .m∨p∈(ks.getD i .m).inc):=fun p hp=>
   hc.pair p i _ _ (hpre p hp).2.1.2 hix (hpre p hp).1 (hks p (hpre p hp).2.1.1) (hks i h1) (hnanc p hp)
 have hanl:∀q∈(ks.getD i .m).inc,∀y∈pre,YC (ancs [] ops.toList) y q=true→pos y<pos q∧q∈(pre.map (item ks)).map (·.1):=fun q hq y hy hh=>by
   obtain⟨hqi,hqa⟩:=hc.inc i _ hix (hks i h1) q hq;have hqs:q<ops.size:=hqi.2.1;have hqx:=hqi.2.2;have hqi:=hqi.1;have hoq:ops[q]? =some ops[q]:=Array.getElem?_eq_getElem hqs;have hql:listed.getD q true=false:=by
     cases hl:listed.getD q true with
     | false=>rfl
     | true=>
       have:=Wl hc.edges hcl q _ hoq (hcl q _ hoq hl) y hh;rw[(hpre y hy).2.2]at this;simp at this
   have hqr:q∈Z8 ord listed:=(hmem q).2 ⟨⟨hqs,hqx⟩,hql⟩;have hqpre:q∈pre:=by
     exact kbe
   exact⟨hc.ancPos q _ hqx hoq y (hpre y hy).2.1.2 hh,List.mem_map.2 ⟨item ks q,List.mem_map.2 ⟨q,hqpre,rfl⟩,rfl⟩⟩
 exact frontP pos hpan i (ks.getD i .m) (pre.map (item ks)).length (pre.map (item ks)) (ks.getD i .m).inc its T H n rfl
   (fun p hp=>by obtain⟨y,hy,rfl⟩:=List.mem_map.1 hp;rfl)
   (fun p hp=>by obtain⟨y,hy,rfl⟩:=List.mem_map.1 hp;exact .inl (hpairs y hy).1)
   (fun hw p hp=>by
     obtain⟨y,hy,rfl⟩:=List.mem_map.1 hp;exact((hpairs y hy).2 hw).imp id .inl)
   (fun q hq=>⟨hq,fun p hp ha=>by obtain⟨y,hy,rfl⟩:=List.mem_map.1 hp;exact⟨(hanl q hq y hy ha).2,(hanl q hq y hy ha).1⟩⟩)
   (by
     have e:(pre.map (item ks)).map (·.1)=pre:=by simp[item,Function.comp_def]
     rw[e];exact hsort2.1)
   (fun hw q hq p hp hne=>by
     obtain⟨y,hy,rfl⟩:=List.mem_map.1 hp;simp only[item]at hne ⊢;obtain⟨hqi,hqa⟩:=hc.inc i _ hix (hks i h1) q hq;cases hh:YC (ancs [] ops.toList) y q with
     | false=>exact .inr (hqa y (hpre y hy).2.1.1 (hpre y hy).2.1.2 (hpre y hy).1 hne hh)
     | true=>exact .inl (hanl q hq y hy hh)) h
structure XOK(ops:Array Oper)(N:Nat)(x:Nat)(ks:List DK)(o0:List Nat)(pos:Nat→Nat)(kX:DK)(bnd:Nat):Prop where
 w:kX.isW=true
 inc:∀q∈kX.inc,q∈o0∧pos q<bnd
 pair:∀p∈o0,pos p<bnd→(ks.getD p .m).isW=false→Jp ops N p (ks.getD p .m) x kX∧(ks.getD p .m= .m∨p∈kX.inc)
 apart:∀q∈kX.inc,∀p∈o0,pos p<bnd→(ks.getD p .m).isW=false→p≠q→YC (ancs [] ops.toList) p q=false→Uc ops p q
def UM(P:Program)(z:TypeId→AV)(N:Nat)(ops:Array Oper)(x:Nat)(ks:List DK)(tl:List Nat)(kxe:DK)(kx:Nat→DK)(Q:QK):List Nat→KT
 | [],T,H,n=>drun P z N ops ((x,kxe,kxe.inc)::tl.map (item ks)) T H n Q
 | i::is,T,H,n=>((ks.getD i .m).isW=true→drun P z N ops ((x,kx i,(kx i).inc)::(i::is++tl).map (item ks)) T H n Q)∧Z0 P z N ops i (ks.getD i .m) (ks.getD i .m).inc T H n (fun T H n=>UM P z N ops x ks tl kxe kx Q is T H n) Q
def kxAt(kxe:DK)(kx:Nat→DK):List Nat→DK
 | []=>kxe
 | i::_=>kx i
theorem Ns{tl : List Nat}{kxe : DK}{kx : Nat → DK}{Q : QK}: ∀ (R : List Nat) (T : Nat → AV) (H : Heap) (n : Nat), UM P z N ops x ks tl kxe kx Q R T H n →
   drun P z N ops ((R.takeWhile fun i=> !(ks.getD i .m).isW).map (item ks)++(x,kxAt kxe kx (R.dropWhile fun i=> !(ks.getD i .m).isW),(kxAt kxe kx (R.dropWhile fun i=> !(ks.getD i .m).isW)).inc)::((R.dropWhile fun i=> !(ks.getD i .m).isW)++tl).map (item ks)) T H n Q
 | [],T,H,n,h=>h
 | i::is,T,H,n,h=>by
   cases hw:(ks.getD i .m).isW with
   | true=>simp only[List.takeWhile_cons,List.dropWhile_cons,hw,Bool.not_true,Bool.false_eq_true,if_false,List.map_nil,List.nil_append,kxAt];exact h.1 hw
   | false=>
     simp only[List.takeWhile_cons,List.dropWhile_cons,hw,Bool.not_false,if_true,List.map_cons,List.cons_append];exact Vb (fun T H n h=>Ns is T H n h) h.2
theorem tree_at{tl : List Nat}{kxe : DK}{kx : Nat → DK}{Q : QK}{i : Nat}{post : List Nat}: ∀ (pre : List Nat) (T : Nat → AV) (H : Heap) (n : Nat), UM P z N ops x ks tl kxe kx Q (pre ++ i :: post) T H n →
   drun P z N ops (pre.map (item ks)++item ks i::[]) T H n (ZK (fun T H n=>UM P z N ops x ks tl kxe kx Q post T H n) Q)
 | [],T,H,n,h=>Wh (fun T H n h=>h) (fun p T H n h=>h) h.2
 | j::pre,T,H,n,h=>Wh (fun T H n h=>tree_at pre T H n h) (fun p T H n h=>h) h.2
theorem tree_of{tl : List Nat}{kxe : DK}{kx : Nat → DK}{Q : QK}{post : List Nat}: ∀ (pre : List Nat) (T : Nat → AV) (H : Heap) (n : Nat), (∀ p ∈ pre, (ks.getD p .m).isW = false) →
   drun P z N ops (pre.map (item ks)++[]) T H n (ZK (fun T H n=>UM P z N ops x ks tl kxe kx Q post T H n) Q)→UM P z N ops x ks tl kxe kx Q (pre++post) T H n
 | [],T,H,n,_,h=>h
 | j::pre,T,H,n,hq,h=>⟨fun hw=>(by rw[hq j osi]at hw;cases hw),Wh (fun T H n h=>tree_of pre T H n (fun p hp=>hq p (by simp[hp])) h) (fun p T H n h=>h) h⟩
theorem takeW_mem{p:Nat→Bool}:∀{R:List Nat} {a:Nat},a∈R.takeWhile p→p a=true
 | i::is,a,h=>by
   rw[List.takeWhile_cons]at h;split at h
   ·rcases List.mem_cons.1 h with rfl | h
    ·assumption
    ·exact takeW_mem h
   ·cases h
theorem PL{p:Nat→Bool}:∀{R:List Nat} {w:Nat} {R':List Nat},R.dropWhile p=w::R'→p w=false
 | i::is,w,R',h=>by
   rw[List.dropWhile_cons]at h;split at h
   ·exact PL h
   ·rename_i hp;cases h;simpa using hp
theorem stepXx{o0 tl : List Nat}(hc : Vt ops N x ks (o0 ++ tl) pos){kxe : DK}{kx : Nat → DK}{be : Nat}(hbe : ∀ p ∈ o0, pos p < be)(hxe : XOK ops N x ks o0 pos kxe be)(hx : ∀ w ∈ o0, (ks.getD w .m).isW = true → XOK ops N x ks o0 pos (kx w) (pos w))
   {Q:QK} (hpan:∀p T T' H n,Q (.pan p) T H n→Q (.pan p) T' H n) {listed:Array Bool} (hcl:∀i o,ops[i]? =some o→listed.getD i true=true→∀e∈ZZ o,listed.getD e true=true)
   {T:Nat→AV} {H:Heap} {n:Nat} (h:UM P z N ops x ks tl kxe kx Q (Z8 o0 listed) T H n):
   ∃k I',Z0 P z N ops x k I' T H n (fun T H n=>drun P z N ops ((Z8 o0 listed++tl).map (item ks)) T H n Q) Q:=by
 have hs:=Ns _ _ _ _ h;obtain⟨Qs,hQs⟩:∃q,q=(Z8 o0 listed).takeWhile fun i=> !(ks.getD i .m).isW:=⟨_,rfl⟩;obtain⟨R,hR⟩:∃q,q=(Z8 o0 listed).dropWhile fun i=> !(ks.getD i .m).isW:=⟨_,rfl⟩;rw[←hQs,←hR]at hs;have hQR:Z8 o0 listed=Qs++R:=by rw[hQs,hR,List.takeWhile_append_dropWhile]
 have hq:∀p∈Qs,(ks.getD p .m).isW=false:=fun p hp=>by rw[hQs]at hp;have:=takeW_mem hp;simpa using this
 have hso:o0.Pairwise (fun a b=>pos a<pos b):=(List.pairwise_append.1 hc.srt).1;have hsorted:(Z8 o0 listed).Pairwise (fun a b=>pos a<pos b):=List.Pairwise.filter _ hso;rw[hQR]at hsorted;have hs2:=List.pairwise_append.1 hsorted;have hQm:∀p∈Qs,p∈o0∧listed.getD p true=false:=fun p hp=>(memP p).1 (by rw[hQR];simp[hp]);have hb:∃bnd,XOK ops N x ks o0 pos (kxAt kxe kx R) bnd∧(∀p∈Qs,pos p<bnd)∧∀q∈R,bnd≤pos q:=by
   cases hRR:R with
   | nil=>exact⟨be,hxe,fun p hp=>hbe p (hQm p hp).1,fun q hq=>by cases hq⟩
   | cons w R'=>
     have hw:(ks.getD w .m).isW=true:=by
       have:=PL (p:=fun i=> !(ks.getD i .m).isW) (hR.symm.trans hRR);simpa using this
     have hwm:w∈o0:=((memP w).1 (show w∈Z8 o0 listed by rw[hQR,hRR];simp)).1;rw[hRR]at hs2;refine⟨pos w,hx w hwm hw,fun p hp=>hs2.2.2 p hp w osi,fun q hq=> ?_⟩;rcases List.mem_cons.1 hq with rfl | h9
     ·exact Nat.le_refl _
     ·exact Nat.le_of_lt ((List.pairwise_cons.1 hs2.2.1).1 q h9)
 obtain⟨bnd,hX,hb1,hb2⟩:=hb;have hQsz:∀p∈o0,p<ops.size∧p≠x:=fun p hp=>(hc.mem p).1 (List.mem_append_left _ hp);have hanl:∀q∈(kxAt kxe kx R).inc,∀y∈Qs,YC (ancs [] ops.toList) y q=true→pos y<pos q∧q∈(Qs.map (item ks)).map (·.1):=fun q hqi y hy hh=>by
   obtain⟨hqo,hqb⟩:=hX.inc q hqi;obtain⟨hqs,hqx⟩:=hQsz q hqo;have hoq:ops[q]? =some ops[q]:=Array.getElem?_eq_getElem hqs;have hql:listed.getD q true=false:=by
     cases hl:listed.getD q true with
     | false=>rfl
     | true=>
       have:=Wl hc.edges hcl q _ hoq (hcl q _ hoq hl) y hh;rw[(hQm y hy).2]at this;simp at this
   have hqr:q∈Z8 o0 listed:=(memP q).2 ⟨hqo,hql⟩;have hqpre:q∈Qs:=by
     rw[hQR]at hqr;rcases List.mem_append.1 hqr with h | h
     ·exact h
     ·have:=hb2 q h;omega
   exact⟨hc.ancPos q _ hqx hoq y (hQsz y (hQm y hy).1).2 hh,List.mem_map.2 ⟨item ks q,List.mem_map.2 ⟨q,hqpre,rfl⟩,rfl⟩⟩
 obtain⟨I',hI⟩:=frontP pos hpan x (kxAt kxe kx R) (Qs.map (item ks)).length (Qs.map (item ks)) (kxAt kxe kx R).inc ((R++tl).map (item ks)) T H n rfl
   (fun p hp=>by obtain⟨y,hy,rfl⟩:=List.mem_map.1 hp;rfl)
   (fun p hp=>by obtain⟨y,hy,rfl⟩:=List.mem_map.1 hp;exact .inl (hX.pair y (hQm y hy).1 (hb1 y hy) (hq y hy)).1)
   (fun hw p hp=>by
     obtain⟨y,hy,rfl⟩:=List.mem_map.1 hp;exact(hX.pair y (hQm y hy).1 (hb1 y hy) (hq y hy)).2.imp id .inl)
   (fun q hqi=>⟨hqi,fun p hp ha=>by obtain⟨y,hy,rfl⟩:=List.mem_map.1 hp;exact⟨(hanl q hqi y hy ha).2,(hanl q hqi y hy ha).1⟩⟩)
   (by
     have e:(Qs.map (item ks)).map (·.1)=Qs:=by simp[item,Function.comp_def]
     rw[e];exact hs2.1)
   (fun hw q hqi p hp hne=>by
     obtain⟨y,hy,rfl⟩:=List.mem_map.1 hp;simp only[item]at hne ⊢;cases hh:YC (ancs [] ops.toList) y q with
     | false=>exact .inr (hX.apart q hqi y (hQm y hy).1 (hb1 y hy) (hq y hy) hne hh)
     | true=>exact .inl (hanl q hqi y hy hh)) hs
 refine⟨_,I',Vb (fun T H n h=> ?_) hI⟩;rw[hQR,qf,qj];exact h
theorem tree_any{o0 tl : List Nat}(hxs : x < ops.size)(hc : Vt ops N x ks (o0 ++ tl) pos){kxe : DK}{kx : Nat → DK}{be : Nat}(hbe : ∀ p ∈ o0, pos p < be)(hxe : XOK ops N x ks o0 pos kxe be)(hx : ∀ w ∈ o0, (ks.getD w .m).isW = true → XOK ops N x ks o0 pos (kx w) (pos w))
   (hE:∀p∈o0,(ks.getD p .m).isW=true→∀i∈o0,pos p<pos i→YC (ancs [] ops.toList) p i=true) (htl:∀t∈tl,YC (ancs [] ops.toList) x t=true)
   {Q:QK} (hpan:∀p T T' H n,Q (.pan p) T H n→Q (.pan p) T' H n) {ds:List Deferred} {c0:Ctx} {H0:Heap} {w0:World}
   {c:Ctx} {w:World} {a:Act} {T:Nat→AV} {H:Heap} {n:Nat} (hst:Step c0 H0 w0 c H n w) (hr:ZJ c T a.tmps) (hN:a.tmps.size=N) (hd:a.defers=ds)
   (h:UM P z N ops x ks tl kxe kx Q o0 T H n):wpAny P .any ops (Jt N ds c0 H0 w0 Q) ops.size (Array.replicate ops.size false) a w:=by
 have hnd:(o0++tl).Nodup:=hc.srt.imp fun h e=>by rw[e]at h;omega
 have hnd0:o0.Nodup:=(List.nodup_append.1 hnd).1;have hxo:x∉o0++tl:=fun hm=>((hc.mem x).1 hm).2 rfl;have hrep:∀i,i<ops.size→(Array.replicate ops.size false).getD i true=false:=fun i hi=>by simp[hi]
 refine Lt (z:=z) (St:=fun listed T H n=>(listed.getD x true=true∧drun P z N ops ((Z8 (o0++tl) listed).map (item ks)) T H n Q)∨(listed.getD x true=false∧UM P z N ops x ks tl kxe kx Q (Z8 o0 listed) T H n)) hc.edges ?_ ?_ ops.size _ osi ?_ ?_ c w a T H n hst hr hN hd ?_
 ·intro listed T H n hsz hall hS;rcases hS with⟨_,hS⟩ | ⟨hS,_⟩
  ·have : Z8 (o0 ++ tl) listed = [] := by
     unfold Z8;rw[List.filter_eq_nil_iff];intro i hi;simp[hall i ((hc.mem i).1 hi).1]
   rw[this]at hS;exact hS
  ·rw[hall x hxs]at hS;cases hS
 ·intro listed T H n i hsz hcl hS h1 h2 h3;have hoi:ops[i]? =some ops[i]:=Array.getElem?_eq_getElem h1;have hget:∀k,(listed.setIfInBounds i true).getD k true=if k=i then true else listed.getD k true:=fun k=>by
    exact kap
  rcases hS with⟨hxl,hS⟩ | ⟨hxl,hS⟩
  ·have hix:i≠x:=fun e=>by rw[e,hxl]at h2;cases h2
   have hin:i∈Z8 (o0++tl) listed:=(memP i).2 ⟨(hc.mem i).2 ⟨h1,hix⟩,h2⟩;obtain⟨pre,post,hsplit⟩:=List.append_of_mem hin;rw[hsplit,qj,List.map_cons]at hS;obtain⟨I',hI⟩:=stepX hc hpan hcl h1 hix h3 hsplit hS;refine⟨_,I',Vb (fun T H n h=> .inl ⟨?_,?_⟩) hI⟩
   ·rw[hget];split
    ·rfl
    ·exact hxl
   ·rw[LG hsz h1 (hnd.filter _) hsplit,qj];exact h
  ·by_cases hix:i=x
   ·subst hix;obtain⟨k,I',hI⟩:=stepXx hc hbe hxe hx hpan hcl hS;refine⟨k,I',Vb (fun T H n h=> .inl ⟨by rw[hget,if_pos rfl],?_⟩) hI⟩;rw[restP_other hxo];have:Z8 tl listed=tl:=by
      unfold Z8;rw[List.filter_eq_self];intro t ht;have hts:=((hc.mem t).1 (List.mem_append_right _ ht)).1;cases hh:listed.getD t true with
      | false=>rfl
      | true=>
        have:=Wl hc.edges hcl t _ (Array.getElem?_eq_getElem hts) (hcl t _ (Array.getElem?_eq_getElem hts) hh) i (htl t ht);rw[hxl]at this;cases this
    have e:Z8 (o0++tl) listed=Z8 o0 listed++tl:=by rw[←this];unfold Z8;rw[List.filter_append,List.filter_filter];simp
    rw[e];exact h
   ·have hio : i ∈ o0 := by
      rcases List.mem_append.1 ((hc.mem i).2 ⟨h1,hix⟩)with h | h
      ·exact h
      ·have:=Wl hc.edges hcl i _ hoi (h3 _ hoi) x (htl i h);rw[hxl]at this;cases this
    have hin:i∈Z8 o0 listed:=(memP i).2 ⟨hio,h2⟩;obtain⟨pre,post,hsplit⟩:=List.append_of_mem hin;have hso:o0.Pairwise (fun a b=>pos a<pos b):=(List.pairwise_append.1 hc.srt).1;have hsorted:(Z8 o0 listed).Pairwise (fun a b=>pos a<pos b):=List.Pairwise.filter _ hso;rw[hsplit]at hsorted;have hs2:=List.pairwise_append.1 hsorted;have hpq:∀p∈pre,(ks.getD p .m).isW=false:=fun p hp=>by
      have hp2:p∈o0∧listed.getD p true=false:=(memP p).1 (by rw[hsplit];simp[hp]);cases hw:(ks.getD p .m).isW with
      | false=>rfl
      | true=>
        have:=Wl hc.edges hcl i _ hoi (h3 _ hoi) p (hE p hp2.1 hw i hio (hs2.2.2 p hp i osi));rw[hp2.2]at this;cases this
    rw[hsplit]at hS;have hd:=tree_at pre _ _ _ hS;have hsplit2:Z8 (o0++tl) listed=pre++i::(post++Z8 tl listed):=by
      have:Z8 (o0++tl) listed=Z8 o0 listed++Z8 tl listed:=by unfold Z8;rw[List.filter_append]
      rw[this,hsplit];simp
    obtain⟨I',hI⟩:=stepX hc (Q:=ZK (fun T H n=>UM P z N ops x ks tl kxe kx Q post T H n) Q) (fun p T T' H n h=>hpan p T T' H n h) hcl h1 hix h3 hsplit2 hd;refine⟨_,I',Wh (Q:=ZK (fun T H n=>UM P z N ops x ks tl kxe kx Q post T H n) Q) (fun T H n h=> .inr ⟨?_,?_⟩) (fun p T H n h=>h) hI⟩
    ·rw[hget,if_neg (Ne.symm hix)];exact hxl
    ·rw[LG hsz h1 (hnd0.filter _) hsplit];exact tree_of pre _ _ _ hpq h
 ·unfold rest;rw[List.filter_eq_self.2 (fun i hi=>by rw[hrep i (List.mem_range.1 hi)];rfl),List.length_range]
 ·intro i o ho hl;have hi:i<ops.size:=by
    rcases Nat.lt_or_ge i ops.size with h | h
    ·exact h
    ·rw[Array.getElem?_eq_none h]at ho;cases ho
  rw[hrep i hi]at hl;cases hl
 ·right;refine⟨hrep x hxs,?_⟩;have:Z8 o0 (Array.replicate ops.size false)=o0:=by
    unfold Z8;rw[List.filter_eq_self];intro i hi;rw[hrep i ((hc.mem i).1 (List.mem_append_left _ hi)).1];rfl
  rw[this];exact h
end
end
def incX(l:List Oper)(b:List Nat)(ps:List Nat)(x j q:Nat):Bool:=
 match l[q]? with
 | none=>false
 | some oq=>decide (ps.getD q 0<ps.getD j 0)&&(q !=x)&&(List.range l.length).all fun p=>p==x||(!decide (ps.getD p 0<ps.getD j 0)||(p==q||(YC b p q||(match l[p]? with | some op=>disj op.dst.toList (WX l oq++oq.dst.toList) | none=>true))))
def xokB(l:List Oper)(N:Nat)(b:List Nat)(x:Nat)(ox:Oper)(ks:List DK)(o0 ps:List Nat)(kX:DK)(bnd:Nat):Bool:=
 kX.isW&&(kX.inc.all fun q=>o0.contains q&&decide (ps.getD q 0<bnd)&&(match l[q]? with
   | none=>false
   | some oq=>o0.all fun p=> !decide (ps.getD p 0<bnd)||((ks.getD p .m).isW||(p==q||(YC b p q||(match l[p]? with | some op=>disj op.dst.toList (WX l oq++oq.dst.toList) | none=>true))))))&&
 o0.all fun p=> !decide (ps.getD p 0<bnd)||((ks.getD p .m).isW||(match l[p]? with | some op=>pairB l N p x op ox (ks.getD p .m) kX&&selfB l op | none=>false))
def VE(l:List Oper)(N x:Nat)(ks:List DK)(o0 tl:List Nat)(kxe:DK)(kx:Nat→DK)(ps:List Nat):Bool:=
 let b:=ancs [] l
 ks.length==l.length&&
 (l.zipIdx.all fun(o,i)=>(ZZ o).all fun e=>decide (e<i))&&
 (match l[x]? with
   | none=>true
   | some ox=>(ZZ ox).isEmpty&&xokB l N b x ox ks o0 ps kxe (l.length+1)&&o0.all fun w=> !(ks.getD w .m).isW||xokB l N b x ox ks o0 ps (kx w) (ps.getD w 0))&&
 ((l.zip ks).zipIdx.all fun((oj,kj),j)=>j==x||((kj.inc.all fun q=>incX l b ps x j q)&&((l.zip ks).zipIdx).all fun((oi,ki),i)=>i==x||(!decide (ps.getD i 0<ps.getD j 0)||(YC b i j||(pairB l N i j oi oj ki kj&&(selfB l oi||ki.isW))))))&&
 (o0++tl).all (fun i=>decide (i<l.length)&&i !=x)&&(List.range l.length).all (fun i=>i==x||(o0++tl).contains i)&&pwB ps (o0++tl)&&
 (l.zipIdx.all fun(o,i)=>i==x||(ZZ o).all fun e=>e==x||decide (ps.getD e 0<ps.getD i 0))&&
 (o0.all fun p=>decide (ps.getD p 0<l.length+1)&&(!(ks.getD p .m).isW||o0.all fun i=> !decide (ps.getD p 0<ps.getD i 0)||YC b p i))&&tl.all fun t=>YC b x t
section
variable {P:Program}{z:TypeId→AV}{N:Nat}{ops:Array Oper}{ks:List DK}{x:Nat}{o0 tl ps:List Nat}
theorem MR{p q:Nat}{oq:Oper}(hoq:ops[q]? =some oq)(h:(match ops.toList[p]? with | some op=>disj op.dst.toList (WX ops.toList oq++oq.dst.toList) | none=>true)=true):Uc ops p q:=fun op oq' hop hoq' d hd=>by
 rw[hoq]at hoq';cases hoq';rw[Array.getElem?_toList,hop]at h;have hn:=UY h (show d∈op.dst.toList by simp[hd]);exact⟨fun hm=>hn (List.mem_append_left _ (by rw[VH];exact hm)),fun e=>hn (List.mem_append_right _ (by simp[e]))⟩
theorem xokB_spec{kX:DK}{bnd:Nat}{ox:Oper}(hox:ops[x]? =some ox)(h:xokB ops.toList N (ancs [] ops.toList) x ox ks o0 ps kX bnd=true):XOK ops N x ks o0 (fun i=>ps.getD i 0) kX bnd:=by
 unfold xokB at h;simp only[Bool.and_eq_true]at h;obtain⟨⟨h1,h2⟩,h3⟩:=h;refine⟨h1,fun q hq=> ?_,fun p hp hb hw=> ?_,fun q hq p hp hb hw hne ha=> ?_⟩
 ·have:=List.all_eq_true.1 h2 q hq;simp only[Bool.and_eq_true]at this;exact⟨by simpa using this.1.1,of_decide_eq_true this.1.2⟩
 ·have:=List.all_eq_true.1 h3 p hp;rw[decide_eq_true hb,hw]at this;simp only[Bool.not_true,Bool.false_or]at this;cases hop:ops.toList[p]? with
  | none=>rw[hop]at this;cases this
  | some op=>
    rw[hop]at this;simp only[Bool.and_eq_true]at this;have hs:=NR (i:=p) (j:=x) (by rw[←Array.getElem?_toList];exact hop) hox this.1 (.inl this.2);exact⟨hs.1,hs.2 h1⟩
 ·have:=List.all_eq_true.1 h2 q hq;simp only[Bool.and_eq_true]at this;have h4:=this.2;cases hoq:ops.toList[q]? with
  | none=>rw[hoq]at h4;cases h4
  | some oq=>
    rw[hoq]at h4;simp only at h4;have h5:=List.all_eq_true.1 h4 p hp;rw[decide_eq_true hb,hw,ha]at h5;simp only[Bool.not_true,Bool.false_or,Bool.or_eq_true,beq_iff_eq]at h5;exact MR (by rw[←Array.getElem?_toList];exact hoq) (h5.resolve_left hne)
theorem Lc{kxe : DK}{kx : Nat → DK}(h : VE ops.toList N x ks o0 tl kxe kx ps = true):
   Vt ops N x ks (o0++tl) (fun i=>ps.getD i 0)∧(x<ops.size→(∀p∈o0,ps.getD p 0<ops.size+1)∧XOK ops N x ks o0 (fun i=>ps.getD i 0) kxe (ops.size+1)∧(∀w∈o0,(ks.getD w .m).isW=true→XOK ops N x ks o0 (fun i=>ps.getD i 0) (kx w) (ps.getD w 0))∧
     (∀p∈o0,(ks.getD p .m).isW=true→∀i∈o0,ps.getD p 0<ps.getD i 0→YC (ancs [] ops.toList) p i=true)∧∀t∈tl,YC (ancs [] ops.toList) x t=true):=by
 unfold VE at h;simp only[Bool.and_eq_true]at h;obtain⟨⟨⟨⟨⟨⟨⟨⟨⟨h1,h2⟩,h3⟩,h4⟩,h5⟩,h6⟩,h7⟩,h8⟩,h9⟩,h10⟩:=h;have hlen:ks.length=ops.size:=by simpa using h1
 have hzip:∀i o k,ops[i]? =some o→ks[i]? =some k→(ops.toList.zip ks)[i]? =some (o,k):=fun i o k ho hk=>by
   exact kcn
 have hop:∀(i:Nat) (k:DK),ks[i]? =some k→∃o,ops[i]? =some o:=fun i k hk=>by
   exact kau
 refine⟨⟨fun i=> ?_,pwB_spec h7,fun i o hix ho e he hex=> ?_,hlen,fun i o ho e he=> ?_,fun o ho=> ?_,fun i j ki kj hix hjx hij hki hkj hanc=> ?_,fun j kj hjx hkj q hq=> ?_⟩,fun hxs=> ?_⟩
 rotate_left 6
 ·obtain⟨ox,hox'⟩:∃o,ops[x]? =some o:=⟨_,Array.getElem?_eq_getElem hxs⟩;rw[show ops.toList[x]? =some ox by rw[Array.getElem?_toList];exact hox']at h3;simp only[Bool.and_eq_true]at h3;obtain⟨⟨x1,x2⟩,x3⟩:=h3;refine⟨fun p hp=> ?_,?_,fun w hw hww=> ?_,fun p hp hw i hi hlt=> ?_,fun t ht=>List.all_eq_true.1 h10 t ht⟩
  ·have:=List.all_eq_true.1 h9 p hp;simp only[Bool.and_eq_true]at this;simpa using of_decide_eq_true this.1
  ·have:=xokB_spec hox' x2;simpa using this
  ·have:=List.all_eq_true.1 x3 w hw;rw[hww]at this;simp only[Bool.not_true,Bool.false_or]at this;exact xokB_spec hox' this
  ·have:=List.all_eq_true.1 h9 p hp;simp only[Bool.and_eq_true,hw,Bool.not_true,Bool.false_or]at this;have:=List.all_eq_true.1 this.2 i hi;rw[decide_eq_true hlt]at this;simpa using this
 ·constructor
  ·intro h;have:=List.all_eq_true.1 h5 i h;simp only[Bool.and_eq_true]at this;exact⟨by simpa using of_decide_eq_true this.1,by simpa using this.2⟩
  ·rintro⟨ha,hb⟩;have:=List.all_eq_true.1 h6 i (List.mem_range.2 (by simpa using ha));simp only[Bool.or_eq_true,beq_iff_eq]at this;have:=this.resolve_left hb;simpa using this
 ·have:=List.all_eq_true.1 h8 (o,i) (WL _ _ _ (by simpa using ho));simp only[Bool.or_eq_true,beq_iff_eq]at this;have:=List.all_eq_true.1 (this.resolve_left hix) e he;simp only[Bool.or_eq_true,beq_iff_eq]at this;exact of_decide_eq_true (this.resolve_left hex)
 ·have:=List.all_eq_true.1 h2 (o,i) (WL _ _ _ (by simpa using ho));exact of_decide_eq_true (List.all_eq_true.1 this e he)
 ·rw[show ops.toList[x]? =some o by rw[Array.getElem?_toList];exact ho]at h3;simp only[Bool.and_eq_true]at h3;simpa using h3.1.1
 ·obtain⟨oi,hoi⟩:=hop i ki hki;obtain⟨oj,hoj⟩:=hop j kj hkj;have hj:=List.all_eq_true.1 h4 ((oj,kj),j) (WL _ _ _ (hzip j oj kj hoj hkj));simp only[Bool.or_eq_true,beq_iff_eq,Bool.and_eq_true]at hj;have hj:=(hj.resolve_left hjx).2;have hi:=List.all_eq_true.1 hj ((oi,ki),i) (WL _ _ _ (hzip i oi ki hoi hki));have hij':decide (ps.getD i 0<ps.getD j 0)=true:=decide_eq_true hij;simp only[hij',hanc,Bool.not_true,Bool.false_or,Bool.or_eq_true,beq_iff_eq,Bool.and_eq_true]at hi;have hi:=hi.resolve_left hix;exact NR hoi hoj hi.1 hi.2
 ·obtain⟨oj,hoj⟩:=hop j kj hkj;have hj:=List.all_eq_true.1 h4 ((oj,kj),j) (WL _ _ _ (hzip j oj kj hoj hkj));simp only[Bool.or_eq_true,beq_iff_eq,Bool.and_eq_true]at hj;have hb:=List.all_eq_true.1 (hj.resolve_left hjx).1 q hq;unfold incX at hb;cases hoq:ops.toList[q]? with
  | none=>rw[hoq]at hb;cases hb
  | some oq=>
    rw[hoq]at hb;simp only[Bool.and_eq_true]at hb;obtain⟨⟨b1,b2⟩,b3⟩:=hb;have hoq':ops[q]? =some oq:=by rw[←Array.getElem?_toList];exact hoq
    have hqs:q<ops.size:=by
      rcases Nat.lt_or_ge q ops.size with h9 | h9
      ·exact h9
      ·rw[Array.getElem?_eq_none h9]at hoq';cases hoq'
    refine⟨⟨of_decide_eq_true b1,hqs,by simpa using b2⟩,fun p hps hpx hp hne hanc=> ?_⟩;have:=List.all_eq_true.1 b3 p (List.mem_range.2 (by simpa using hps));have hp':decide (ps.getD p 0<ps.getD j 0)=true:=decide_eq_true hp;simp only[hp',hanc,Bool.not_true,Bool.false_or,Bool.or_eq_true,beq_iff_eq]at this;exact MR hoq' ((this.resolve_left hpx).resolve_left hne)
end
def tif(b:Bool)(X Y:Prop):Prop:=(b=true→X)∧Y
theorem tif_t(X Y:Prop):tif true X Y=(X∧Y):=by simp[tif]
theorem tif_f(X Y:Prop):tif false X Y=Y:=by simp[tif]
def wB:Option DK→Bool
 | some (.w _)=>true
 | some (.a _ _)=>true
 | _=>false
def kxL:List (Nat×DK)→Nat→DK
 | [],_=> .m
 | (w,k)::r,i=>if i=w then k else kxL r i
def Mv(P:Program)(z:TypeId→AV)(N:Nat)(l:List Oper)(x:Nat)(ks:List DK)(tl:List Nat)(kxe:DK)(kx:List (Nat×DK))(Q:QK):List Nat→KT
 | [],T,H,n=>dr P z N l (opk1 (opAt l x) (some kxe) (opkL l ks tl)) T H n Q
 | i::is,T,H,n=>tif (wB (dkAt ks i)) (dr P z N l (opk1 (opAt l x) (some (kxL kx i)) (opkL l ks (i::is++tl))) T H n Q) (dr P z N l (opkL l ks [i]) T H n (ZK (Mv P z N l x ks tl kxe kx Q is) Q))
section
variable {P:Program}{z:TypeId→AV}{N:Nat}{l:List Oper}{ks:List DK}{x:Nat}{Q:QK}
theorem dr_x(hl:ks.length=l.length)(hx:x<l.length){kX:DK}{rst:List Nat}(hr:∀i∈rst,i<l.length∧i≠x){T:Nat→AV}{H:Heap}{n:Nat}(h:dr P z N l (opk1 (opAt l x) (some kX) (opkL l ks rst)) T H n Q):drun P z N l.toArray ((x,kX,kX.inc)::rst.map (item ks)) T H n Q:=by
 have e1:∀r:List Nat,(∀i∈r,i≠x)→opkL l (ks.set x kX) r=opkL l ks r:=by
   intro r
   induction r with
   | nil=>intro _;rfl
   | cons i r ih=>
     intro hi;rw[opkL,opkL,ih (fun j hj=>hi j (by simp[hj])),La,La,List.getElem?_set_ne (Ne.symm (hi i osi))]
 have e2:opkL l (ks.set x kX) (x::rst)=opk1 (opAt l x) (some kX) (opkL l ks rst):=by
   rw[opkL,e1 rst (fun i hi=>(hr i hi).2),La,List.getElem?_set_self om]
 have:=KZ (P:=P) (z:=z) (N:=N) (l:=l) (ks:=ks.set x kX) (Q:=Q) (by simpa using hl) (x::rst) T H n (fun i hi=>by
   rcases List.mem_cons.1 hi with rfl | hi
   ·exact hx
   ·exact(hr i hi).1) (by rw[e2];exact h)
 rw[List.map_cons]at this;have e3:item (ks.set x kX) x=(x,kX,kX.inc):=by simp[item,List.getD,hl,hx]
 have e4:rst.map (item (ks.set x kX))=rst.map (item ks):=List.map_congr_left fun i hi=>by simp[item,List.getD,List.getElem?_set_ne (Ne.symm (hr i hi).2)]
 rw[e3,e4]at this;exact this
theorem wB_isW(i:Nat):wB (dkAt ks i)=(ks.getD i .m).isW:=by
 rw[La];simp only[List.getD];cases ks[i]? with
 | none=>rfl
 | some k=>cases k<;>rfl
theorem treeR_D{tl:List Nat}{kxe:DK}{kx:List (Nat×DK)}(hl:ks.length=l.length)(hx:x<l.length)(ht:∀i∈tl,i<l.length∧i≠x):∀(o0:List Nat) (T:Nat→AV) (H:Heap) (n:Nat),(∀i∈o0,i<l.length∧i≠x)→Mv P z N l x ks tl kxe kx Q o0 T H n→UM P z N l.toArray x ks tl kxe (kxL kx) Q o0 T H n
 | [],T,H,n,_,h=>dr_x hl hx ht h
 | i::is,T,H,n,ho,h=>by
   unfold Mv at h;unfold UM;rw[wB_isW]at h;refine⟨fun hw=>dr_x hl hx (fun j hj=> ?_) (h.1 hw),?_⟩
   ·rcases List.mem_append.1 hj with hj | hj
    ·exact ho j hj
    ·exact ht j hj
   ·have:=KZ (P:=P) (z:=z) (N:=N) (l:=l) (ks:=ks) (Q:=ZK (Mv P z N l x ks tl kxe kx Q is) Q) hl [i] T H n (fun j hj=>by rw[List.mem_singleton.1 hj];exact(ho i osi).1) h.2;exact Wh (Q:=ZK (Mv P z N l x ks tl kxe kx Q is) Q) (fun T H n h=>treeR_D hl hx ht is T H n (fun j hj=>ho j (by simp[hj])) h) (fun p T H n h=>h) this
theorem awp_tree1{id : Nat}{T : Nat → AV}{H : Heap}{n : Nat}(hm : P.follows .mixedOrders = true)(z : TypeId → AV)(live : List Nat)(x : Nat)(ks : List DK)(o0 tl : List Nat)(kxe : DK)(kx : List (Nat × DK))(ps : List Nat)
   (hxl:x<l.length) (hc:VE l N x ks o0 tl kxe (kxL kx) ps=true) (hpan:∀p T T' H n,Q (.pan p) T H n→Q (.pan p) T' H n)
   (h:∀K:KT,(∀T H n,Q .normal T H n→K T H n)→Mv P z N l x ks tl kxe kx (ZK (fun T' H' n'=>K (tsel live T') H' n') Q) o0 T H n):
   awp P N (.region id l.toArray true) T H n Q:=
 Uu live <| fun c w a hs hr hN ds hd=>by
   refine wp_region_any hm ?_;obtain⟨h1,hh⟩:=Lc (ops:=l.toArray) (N:=N) (x:=x) (ks:=ks) (o0:=o0) (tl:=tl) (kxe:=kxe) (kx:=kxL kx) (ps:=ps) (by simpa using hc);obtain⟨h2,h3,h4,h5,h6⟩:=hh (by simpa using hxl);have hm1:∀i∈o0++tl,i<l.length∧i≠x:=fun i hi=>by simpa using(h1.mem i).1 hi
   have hR:=h (fun T' H' n'=>Q .normal T' H' n') (fun _ _ _ h=>h);have hD:=treeR_D (by simpa using h1.len) hxl (fun i hi=>hm1 i (List.mem_append_right _ hi)) o0 T H n (fun i hi=>hm1 i (List.mem_append_left _ hi)) hR;exact tree_any (Q:=ZK (fun T' H' n'=>Q .normal (tsel live T') H' n') Q) (by simpa using hxl) h1 h2 h3 h4 h5 h6 (fun p T T' H n hq=>hpan p T T' H n hq) (Step.drew hs) hr hN hd hD
theorem awp_drxd{id : Nat}{T : Nat → AV}{H : Heap}{n : Nat}(hm : P.follows .mixedOrders = true)(z : TypeId → AV)(ks : List DK)(ord ps : List Nat)(hc : VE l N l.length ks ord [] .m (fun _ => .m) ps = true)
   (hpan:∀p T T' H n,Q (.pan p) T H n→Q (.pan p) T' H n) (h:(∀i∈ord,i<l.length)→ks.length=l.length→drun P z N l.toArray (ord.map (item ks)) T H n Q):awp P N (.region id l.toArray true) T H n Q:=fun c w a hs hr hN ds hd=>by
 refine wp_region_any hm ?_;obtain⟨h1,_⟩:=Lc (ops:=l.toArray) (N:=N) (x:=l.length) (ks:=ks) (o0:=ord) (tl:=[]) (kxe:= .m) (kx:=fun _=> .m) (ps:=ps) (by simpa using hc);rw[List.append_nil]at h1;have hnd:ord.Nodup:=h1.srt.imp fun h e=>by rw[e]at h;omega
 have hrep:∀i,i<l.toArray.size→(Array.replicate l.toArray.size false).getD i true=false:=fun i hi=>by simp at hi;simp[hi]
 refine Lt (z:=z) (St:=fun listed T H n=>drun P z N l.toArray ((Z8 ord listed).map (item ks)) T H n Q) h1.edges ?_ ?_ l.toArray.size _ osi ?_ ?_ c _ a T H n (Step.drew hs) hr hN hd ?_
 ·intro listed T H n hsz hall hS;have:Z8 ord listed=[]:=by
    unfold Z8;rw[List.filter_eq_nil_iff];intro i hi;simp[hall i ((h1.mem i).1 hi).1]
  rw[this]at hS;exact hS
 ·intro listed T H n i hsz hcl hS g1 g2 g3;have hix:i≠l.length:=fun e=>by simp at g1;omega
  have hin:i∈Z8 ord listed:=(memP i).2 ⟨(h1.mem i).2 ⟨g1,hix⟩,g2⟩;obtain⟨pre,post,hsplit⟩:=List.append_of_mem hin;rw[hsplit,qj,List.map_cons]at hS;obtain⟨I',hI⟩:=stepX h1 hpan hcl g1 hix g3 hsplit hS;refine⟨_,I',Vb (fun T H n h=> ?_) hI⟩;rw[LG hsz g1 (hnd.filter _) hsplit,qj];exact h
 ·unfold rest;rw[List.filter_eq_self.2 (fun i hi=>by rw[hrep i (List.mem_range.1 hi)];rfl),List.length_range]
 ·intro i o ho hl;have hi:i<l.toArray.size:=by
    rcases Nat.lt_or_ge i l.toArray.size with h | h
    ·exact h
    ·rw[Array.getElem?_eq_none h]at ho;cases ho
  rw[hrep i hi]at hl;cases hl
 ·have : Z8 ord (Array.replicate l.toArray.size false) = ord := by
    unfold Z8;rw[List.filter_eq_self];intro i hi;rw[hrep i ((h1.mem i).1 hi).1];rfl
  rw[this];exact h (fun i hi=>by simpa using((h1.mem i).1 hi).1) (by simpa using h1.len)
theorem awp_drx0{id:Nat}{T:Nat→AV}{H:Heap}{n:Nat}(hm:P.follows .mixedOrders=true)(z:TypeId→AV)(ks:List DK)(ord ps:List Nat)(hc:VE l N l.length ks ord [] .m (fun _=> .m) ps=true)
 (hpan:∀p T T' H n,Q (.pan p) T H n→Q (.pan p) T' H n) (h:dr P z N l (opkL l ks ord) T H n Q):awp P N (.region id l.toArray true) T H n Q:=awp_drxd hm z ks ord ps hc hpan fun h1 h2=>KZ h2 ord T H n h1 h
theorem U4{id : Nat}{T : Nat → AV}{H : Heap}{n : Nat}(hm : P.follows .mixedOrders = true)(z : TypeId → AV)(live : List Nat)(ks : List DK)(ord ps : List Nat)(hc : VE l N l.length ks ord [] .m (fun _ => .m) ps = true)
   (hpan:∀p T T' H n,Q (.pan p) T H n→Q (.pan p) T' H n) (h:∀K:KT,(∀T H n,Q .normal T H n→K T H n)→dr P z N l (opkL l ks ord) T H n (ZK (fun T' H' n'=>K (tsel live T') H' n') Q)):awp P N (.region id l.toArray true) T H n Q:=
 Uu live <| awp_drx0 hm z ks ord ps hc (fun p T T' H n hq=>hpan p T T' H n hq) (h (fun T' H' n'=>Q .normal T' H' n') (fun _ _ _ h=>h))
theorem Y0{id : Nat}{y : Code}{T : Nat → AV}{H : Heap}{n : Nat}(hm : P.follows .mixedOrders = true)(z : TypeId → AV)(live : List Nat)(ks : List DK)(ord ps : List Nat)(hc : VE l N l.length ks ord [] .m (fun _ => .m) ps = true)
   (hpan:∀p T T' H n,Q (.pan p) T H n→Q (.pan p) T' H n) (h:∀K:KT,(∀T H n,awp P N y T H n Q→K T H n)→dr P z N l (opkL l ks ord) T H n (ZK (fun T' H' n'=>K (tsel live T') H' n') Q)):awp P N (.seq (.region id l.toArray true) y) T H n Q:=
 JN ((awp_drx0 (Q:=ZK (fun T' H' n'=>awp P N y (tsel live T') H' n' Q) Q) hm z ks ord ps hc (fun p T T' H n hq=>hpan p T T' H n hq) (h (fun T' H' n'=>awp P N y T' H' n' Q) (fun _ _ _ h=>h))).mono fun e T' H' n' hq=>by
   cases e<;>first | exact Yl live hq | exact hq)
end
attribute [go_sem] tif_t tif_f wB.eq_1 wB.eq_2 wB.eq_3 kxL.eq_1 kxL.eq_2 Mv.eq_1 Mv.eq_2
def Imp(P Q:Prop):Prop:=Q→P
theorem Imp.rf{P:Prop}:Imp P P:=id
theorem Imp.up{P Q R:Prop}(g:Imp P R)(k:Imp R Q):Imp P Q:=fun h=>g (k h)
theorem Imp.tr{P Q:Prop}{R:True→Prop}(g:∀u,Imp P (R u))(k:Imp (R trivial) Q):Imp P Q:=fun h=>g trivial (k h)
theorem Imp.nd{A B Q:Prop}(a:A)(b:Imp B Q):Imp (A∧B) Q:=fun h=>⟨a,b h⟩
theorem Imp.pl{A B Q:Prop}(b:Imp B Q)(a:A:=by first | omega | assumption | (simp;done) | (intros;simp_all;done) | decide):Imp (A∧B) Q:=fun h=>⟨a,b h⟩
theorem N0.eqs{P Q:Prop}(g:Imp P Q:=by(try simp only[go_sem,seval]);exact Imp.rf):Imp P Q:=g
theorem N0.inz{P Q:Prop}(g:Imp P Q:=by(try simp only[go_sem,seval]);(repeat refine Imp.pl ?_);exact Imp.rf):Imp P Q:=g
theorem N1.eqs{P Q:Prop}(g:Imp P Q:=by(try simp only[go_sem,↓reduceIte,Nat.reduceEqDiff,Nat.reduceLT,Nat.reduceSub,Nat.reduceAdd,Nat.reduceMul]);exact Imp.rf):Imp P Q:=g
theorem N1.inz{P Q:Prop}(g:Imp P Q:=by(try simp only[go_sem,↓reduceIte,Nat.reduceEqDiff,Nat.reduceLT,Nat.reduceSub,Nat.reduceAdd,Nat.reduceMul]);(repeat refine Imp.pl ?_);exact Imp.rf):Imp P Q:=g
theorem NY.inz{P Q:Prop}(g:Imp P Q:=by refine Imp.up eqs ?_;(repeat refine Imp.pl ?_);exact Imp.rf):Imp P Q:=g
theorem NZ.inz{P Q:Prop}(g:Imp P Q:=by refine Imp.up eqs ?_;(repeat (first | (refine Imp.nd ?_ ?_;· exact sd) | refine Imp.pl ?_));exact Imp.rf):Imp P Q:=g
theorem ns{P:Prop}{Q:True→Prop}(k:Q trivial)(g:∀u,Imp P (Q u):=by intro _;exact eqs):P:=g trivial k
theorem nz{P:Prop}{Q:True→Prop}(k:Q trivial)(g:∀u,Imp P (Q u):=by intro _;exact inz):P:=g trivial k
section
variable {P:Program}{N id:Nat}{l:List Oper}{x y:Code}{T T':Nat→AV}{H H':Heap}{n n':Nat}{Q:QK}
theorem rg(z:TypeId→AV)(live:List Nat)(k:awp P N y T' H' n' Q)
 (h:∀K:KT,Imp (erun P z N l.toArray l T H n (ZK (fun T' H' n'=>K (tsel live T') H' n') Q)) (K T' H' n'):=by intro K;exact inz):
 awp P N (.seq (.region id l.toArray false) y) T H n Q:=Zg z live fun K V=>h K (V _ _ _ k)
theorem rg1(z:TypeId→AV)(live:List Nat){R:True→Prop}(k:R trivial)
 (h:∀K:KT,Imp (erun P z N l.toArray l T H n (ZK (fun T' H' n'=>K (tsel live T') H' n') Q)) (K T' H' n'):=by intro K;exact inz)
 (g:∀u,Imp (Q .normal T' H' n') (R u):=by intro _;exact eqs):
 awp P N (.region id l.toArray false) T H n Q:=ZP z live fun K V=>h K (V _ _ _ (g trivial k))
theorem rk(z:TypeId→AV)(live:List Nat){R:(KT)→Prop}
 (h:∀K:KT,(∀T H n,awp P N y T H n Q→K T H n)→R K)
 (g:∀K:KT,Imp (erun P z N l.toArray l T H n (ZK (fun T' H' n'=>K (tsel live T') H' n') Q)) (R K):=by intro K;exact inz):
 awp P N (.seq (.region id l.toArray false) y) T H n Q:=Zg z live fun K V=>g K (h K V)
theorem rk1(z:TypeId→AV)(live:List Nat){R:(KT)→Prop}
 (h:∀K:KT,(∀T H n,Q .normal T H n→K T H n)→R K)
 (g:∀K:KT,Imp (erun P z N l.toArray l T H n (ZK (fun T' H' n'=>K (tsel live T') H' n') Q)) (R K):=by intro K;exact inz):
 awp P N (.region id l.toArray false) T H n Q:=ZP z live fun K V=>g K (h K V)
theorem ak{R:True→Prop}(k:R trivial)(g:∀u,Imp (Q .normal T H n) (R u):=by intro _;exact eqs):awp P N .skip T H n Q:=awp_skip (g trivial k)
theorem ar{R:True→Prop}(k:R trivial)(g:∀u,Imp (Q .ret T H n) (R u):=by intro _;exact eqs):awp P N .ret T H n Q:=awp_ret (g trivial k)
theorem ax{i:Nat}{R:True→Prop}(k:R trivial)(g:∀u,Imp (Q (.exit i) T H n) (R u):=by intro _;exact eqs):awp P N (.exit i) T H n Q:=awp_exit (g trivial k)
theorem bk{id:Nat}(h:∀K:KT,(∀T H n,awp P N y T H n Q→K T H n)→awp P N x T H n (Ju id (ZK K Q))):awp P N (.seq (.block id x) y) T H n Q:=
 Za fun K V=>Zq (h K V)
variable (hm:P.follows .mixedOrders=true)
theorem dx(z:TypeId→AV)(live:List Nat)(ks:List DK)(ord ps:List Nat){R:(KT)→Prop}
 (h:∀K:KT,(∀T H n,awp P N y T H n Q→K T H n)→R K)
 (hm:P.follows .mixedOrders=true:=by rfl)
 (hc:VE l N l.length ks ord [] .m (fun _=> .m) ps=true:=by kernel_rfl)
 (hpan:∀p T T' H n,Q (.pan p) T H n→Q (.pan p) T' H n:=by exact fun _ _ _ _ _ h=>h)
 (g:∀K:KT,Imp (dr P z N l (opkL l ks ord) T H n (ZK (fun T' H' n'=>K (tsel live T') H' n') Q)) (R K):=by intro K;exact inz):
 awp P N (.seq (.region id l.toArray true) y) T H n Q:=Y0 hm z live ks ord ps hc hpan fun K V=>g K (h K V)
theorem dx1(z:TypeId→AV)(live:List Nat)(ks:List DK)(ord ps:List Nat){R:(KT)→Prop}
 (h:∀K:KT,(∀T H n,Q .normal T H n→K T H n)→R K)
 (hm:P.follows .mixedOrders=true:=by rfl)
 (hc:VE l N l.length ks ord [] .m (fun _=> .m) ps=true:=by kernel_rfl)
 (hpan:∀p T T' H n,Q (.pan p) T H n→Q (.pan p) T' H n:=by exact fun _ _ _ _ _ h=>h)
 (g:∀K:KT,Imp (dr P z N l (opkL l ks ord) T H n (ZK (fun T' H' n'=>K (tsel live T') H' n') Q)) (R K):=by intro K;exact inz):
 awp P N (.region id l.toArray true) T H n Q:=U4 hm z live ks ord ps hc hpan fun K V=>g K (h K V)
end
theorem ek{K R:KT}(V:∀T H n,R T H n→K T H n){T:Nat→AV}{H:Heap}{n:Nat}{X:Prop}(k:R T H n)(g:True→Imp X (K T H n):=by intro _;exact inz):X:=g trivial (V _ _ _ k)
section
variable {P:Program}{f:FuncId}{fn:Func}{first captured args args':List AV}{H:Heap}{n:Nat}{k kp:AV→Heap→Nat→Prop}{K:AV→Prop}{r:AV}{H':Heap}{n':Nat}{R:True→Prop}
theorem ck (hf:P.funcs[f]? =some fn) (h:Ret P f (first++args++captured) H n r H' n') (hk:R trivial) (hb:fn.body.isSome=true:=by rfl) (hn:(fn.name== "runtime.NumGoroutine")=false:=by rfl)
 (g:∀u,Imp (k r H' n') (R u):=by intro _;exact inz):Vr P (.fn (.func f) first captured) args H n k kp:=Zu hf hb hn rfl h (g trivial hk)
theorem cg {b:Bool} (hf:P.funcs[f]? =some fn) (h:b=true→Ret P f (first++args++captured) H n r H n) (hk:R trivial) (hb:fn.body.isSome=true:=by rfl) (hn:(fn.name== "runtime.NumGoroutine")=false:=by rfl)
 (g:∀u,Imp (k (.opt b r) H n) (R u):=by intro _;exact inz):PR P b (.fn (.func f) first captured) args H n k kp:=YM hf hb hn rfl h (g trivial hk)
theorem cq {b:Bool} (hf:P.funcs[f]? =some fn) (h:b=true→∀n,Ret P f (first++args++captured) H n r H n) (hk:R trivial) (hb:fn.body.isSome=true:=by rfl) (hn:(fn.name== "runtime.NumGoroutine")=false:=by rfl)
 (g:∀u,Imp (K r) (R u):=by intro _;exact inz):Jf P b (.fn (.func f) first captured) args H K:=ZQ hf hb hn rfl h (g trivial hk)
theorem cK{K0 : ARes → Heap → Nat → Prop}(hf : P.funcs[f]? = some fn)(h : Zn P f (first ++ args ++ captured) H n K0)(hp : ∀ p H' n', K0 (.pan p) H' n' → kp p H' n')(hk : ∀ r H' n', K0 (.val r) H' n' → k r H' n')
   (hb:fn.body.isSome=true:=by rfl) (hn:(fn.name== "runtime.NumGoroutine")=false:=by rfl):Vr P (.fn (.func f) first captured) args H n k kp:=by
 rw[PQ];exact .inl ⟨⟨fn,hf,hb,hn⟩,h.mono fun r H n hr=>by cases r<;>first | exact hk _ _ _ hr | exact hp _ _ _ hr⟩
theorem ckI {Q:Prop} (hf:P.funcs[f]? =some fn) (h:Ret P f (first++args++captured) H n r H' n') (g:Imp (k r H' n') Q) (hb:fn.body.isSome=true:=by rfl) (hn:(fn.name== "runtime.NumGoroutine")=false:=by rfl):Imp (Vr P (.fn (.func f) first captured) args H n k kp) Q:=fun q=>Zu hf hb hn rfl h (g q)
end
section
variable {P:Program}{N id:Nat}{l:List Oper}{y:Code}{T T':Nat→AV}{H H':Heap}{n n':Nat}{Q:QK}{f:FuncId}{fn:Func}{args:List AV}{H1 H2:Heap}{n1 n2:Nat}{r:AV}
theorem rc(z:TypeId→AV)(live:List Nat)(hf:P.funcs[f]? =some fn)(hC:Ret P f args H1 n1 r H2 n2)(k:awp P N y T' H' n' Q)
 (h:P.funcs[f]? =some fn→Ret P f args H1 n1 r H2 n2→∀K:KT,Imp (erun P z N l.toArray l T H n (ZK (fun T' H' n'=>K (tsel live T') H' n') Q)) (K T' H' n'):=by intro hF hC K;refine Imp.tr (fun _=>inz) ?_;refine ckI hF hC ?_;exact inz):
 awp P N (.seq (.region id l.toArray false) y) T H n Q:=Zg z live fun K V=>h hf hC K (V _ _ _ k)
theorem rc1(z:TypeId→AV)(live:List Nat){R:True→Prop}(hf:P.funcs[f]? =some fn)(hC:Ret P f args H1 n1 r H2 n2)(k:R trivial)
 (h:P.funcs[f]? =some fn→Ret P f args H1 n1 r H2 n2→∀K:KT,Imp (erun P z N l.toArray l T H n (ZK (fun T' H' n'=>K (tsel live T') H' n') Q)) (K T' H' n'):=by intro hF hC K;refine Imp.tr (fun _=>inz) ?_;refine ckI hF hC ?_;exact inz)
 (g:∀u,Imp (Q .normal T' H' n') (R u):=by intro _;exact eqs):
 awp P N (.region id l.toArray false) T H n Q:=ZP z live fun K V=>h hf hC K (V _ _ _ (g trivial k))
end
theorem fw{P:Program}{f:FuncId}{fn:Func}{code:Code}{args:List AV}{H:Heap}{n N:Nat}{rs:Array ResultVar}{K:ARes→Heap→Nat→Prop}
 (hf:P.funcs[f]? =some fn) (hN:fn.ntmps=N) (hrs:fn.results=rs) {R:True→Prop} (h:R trivial) (hb:fn.body=some code:=by rfl) (hlen:args.length≤N:=by simp)
 (g:∀u,Imp (awp P N code (tl (argL 0 args)) H n (Fin P rs.toList K)) (R u):=by intro _;simp only[go_sem];exact Imp.rf):Zn P f args H n K:=acalls_of_awp hf hb hN (congrArg Array.toList hrs) hlen (g trivial h)
end Go.Sx
namespace Go.Rt
open Go Go.Sx
structure RWd where
 kind:Nat
 text:List UInt8
 pos:Nat
 num:Nat
def rwAV(w:RWd):AV:= .agg [.int .u8 w.kind,.str w.text,.int .i64 w.pos,.int .i64 w.num]
def Ui(k:Nat):Nat:=if k=0 then 101 else if k=1 then 110 else if k=2 then 100 else if k=3 then 115 else 103
def rwd(w:Wd):RWd:=⟨Ui w.kind,if w.kind=3 then w.str else w.text,w.pos,w.num⟩
def satN(l:List UInt8):Nat:=l.foldl (fun n c=>if n≤1099511627776 then 10*n+(c.toNat-48)else n) 0
theorem satN_snoc(l:List UInt8)(c:UInt8):satN (l++[c])=if satN l≤1099511627776 then 10*satN l+(c.toNat-48)else satN l:=by unfold satN;rw[List.foldl_append];rfl
theorem satN_run : ∀ (l : List UInt8) (a b : Nat), (a = b ∨ (1099511627776 < a ∧ 1099511627776 < b)) →
   (let x:=l.foldl (fun n c=>if n≤1099511627776 then 10*n+(c.toNat-48)else n) a;let y:=l.foldl (fun n c=>10*n+(c.toNat-48)) b;x=y∨(1099511627776<x∧1099511627776<y))
 | [],_,_,h=>h
 | c::l,a,b,h=>by
   simp only[List.foldl_cons];refine satN_run l _ _ ?_;rcases h with rfl | ⟨h1,h2⟩
   ·split
    ·exact .inl rfl
    ·right;omega
   ·rw[if_neg om];right;omega
theorem satN_grow:∀(l:List UInt8) (a:Nat),1099511627776<a→1099511627776<l.foldl (fun n c=>if n≤1099511627776 then 10*n+(c.toNat-48)else n) a
 | [],_,h=>h
 | c::l,a,h=>by rw[List.foldl_cons,if_neg om];exact satN_grow l a h
theorem dig_ge:∀(l:List UInt8) (a:Nat),a*10^l.length≤l.foldl (fun n c=>10*n+(c.toNat-48)) a
 | [],a=>osi
 | c::l,a=>by
   rw[List.foldl_cons,qi,Nat.pow_succ,Nat.mul_comm (10^l.length),←Nat.mul_assoc];exact Nat.le_trans (Nat.mul_le_mul_right _ om) (dig_ge l _)
theorem satN_num{d : List UInt8}(hd : ∀ c ∈ d, ZA c = true)(h0 : ¬ (1 < d.length ∧ d.getD 0 0 = 48)):
   (1099511627776<satN d↔1099511627776<numV d)∧(numV d≤1099511627776→satN d=numV d):=by
 have key:satN (d.take 14)=numV d∨(1099511627776<satN (d.take 14)∧1099511627776<numV d):=satN_run (d.take 14) 0 0 (.inl rfl);by_cases hl:d.length≤14
 ·rw[List.take_of_length_le hl]at key;constructor
  ·omega
  ·intro h;omega
 ·have hbig : 1099511627776 < numV d := by
    cases d with
    | nil=>simp at hl
    | cons c l=>
      have hc:ZA c=true:=hd c osi;have hc0:c≠48:=fun e=>h0 ⟨by simp at hl ⊢;omega,by simp[e]⟩;have hcn:c.toNat≠48:=fun e=>hc0 (UInt8.toNat_inj.1 e);unfold ZA at hc;simp only[Bool.and_eq_true,decide_eq_true_eq]at hc;have:=dig_ge (l.take 13) (c.toNat-48);have hl13:(l.take 13).length=13:=by rw[qk];simp at hl;omega
      rw[hl13]at this;have e:numV (c::l)=(l.take 13).foldl (fun n c=>10*n+(c.toNat-48)) (c.toNat-48):=by
        simp[numV]
      rw[e];have:1*10^13≤(c.toNat-48)*10^13:=Nat.mul_le_mul_right _ om;have p13:(10:Nat)^13=10000000000000:=odc;omega
  have hsat:1099511627776<satN d:=by
    have e:d=d.take 14++d.drop 14:=(List.take_append_drop 14 d).symm;rw[e];unfold satN;rw[List.foldl_append];exact satN_grow _ _ (by rcases key with k | k;(show 1099511627776<satN (d.take 14);omega);exact k.1)
  exact⟨⟨fun _=>hbig,fun _=>hsat⟩,fun h=>om⟩
def XA(t:List UInt8)(p:Nat):RWd×Nat×Bool:=
 match XU t p with
 | .ok x=>(rwd x.1,x.2,true)
 | .error a=>
   if ZA (t.getD a 0)then(⟨100,[],a,satN ((t.drop a).takeWhile ZA)⟩,a,false)
   else if (t.getD a 0).toNat=34 then(⟨115,[],a,0⟩,0,false)
   else(⟨103,[],a,0⟩,a,false)
def roAV(fs:List Fml)(t:List UInt8)(w:RWd)(p o:Nat)(bad:Int):AV:= .agg [.str t,Zh fs,rwAV w,.int .i64 p,.int .i64 o,.int .i64 bad]
theorem wordX_pos{t:List UInt8}{p a:Nat}(h:XU t p= .error a):(XA t p).1.pos=a∧(XA t p).2.2=false:=by
 unfold XA;rw[h];simp only;split
 ·exact⟨rfl,rfl⟩
 ·split<;>exact⟨rfl,rfl⟩
theorem VJ{t:List UInt8}{p:Nat}{x:Wd×Nat}(h:XU t p= .ok x):XA t p=(rwd x.1,x.2,true):=by
 unfold XA;rw[h]
def QV(t:List UInt8)(p:Nat):Nat:=match YO.find? (fun s=>s.isPrefixOf (t.drop p))with | some s=>s.length | none=>0
def signN(c d:UInt8)(b:Bool):Nat:=
 if c.toNat==60||c.toNat==62 then(if b&&d.toNat==61 then 2 else 1)
 else if c.toNat==33 then(if b&&d.toNat==61 then 2 else 0)
 else if c.toNat==61||c.toNat==94||c.toNat==40||c.toNat==41 then 1 else 0
theorem signN_at(c d:UInt8)(l:List UInt8):(match YO.find? (fun s=>s.isPrefixOf (c::d::l))with | some s=>s.length | none=>0)=signN c d true:=by
 have e:∀(a:UInt8) (k:UInt8),(k==a)=(a.toNat==k.toNat):=fun a k=>by rw[Bool.eq_iff_iff,beq_iff_eq,beq_iff_eq,←UInt8.toNat_inj];exact eq_comm
 refine ka1 ?_;generalize c.toNat=a;generalize d.toNat=b;have hbd:∀x y:Nat,(x==y)=decide (x=y):=fun x y=>by rw[Bool.eq_iff_iff];simp
 by_cases a1:a=33<;>by_cases a2:a=60<;>by_cases a3:a=62<;>by_cases a4:a=61<;>by_cases a5:a=94<;>by_cases a6:a=40<;>by_cases a7:a=41<;>by_cases b1:b=61
 all_goals first | (exfalso;omega) | simp[a1,a2,a3,a4,a5,a6,a7,b1,hbd]
theorem signN_at1(c d:UInt8):(match YO.find? (fun s=>s.isPrefixOf [c])with | some s=>s.length | none=>0)=signN c d false:=by
 have e:∀(a:UInt8) (k:UInt8),(k==a)=(a.toNat==k.toNat):=fun a k=>by rw[Bool.eq_iff_iff,beq_iff_eq,beq_iff_eq,←UInt8.toNat_inj];exact eq_comm
 refine ka1 ?_;generalize c.toNat=a;have hbd:∀x y:Nat,(x==y)=decide (x=y):=fun x y=>by rw[Bool.eq_iff_iff];simp
 by_cases a1:a=33<;>by_cases a2:a=60<;>by_cases a3:a=62<;>by_cases a4:a=61<;>by_cases a5:a=94<;>by_cases a6:a=40<;>by_cases a7:a=41
 all_goals first | (exfalso;omega) | simp[a1,a2,a3,a4,a5,a6,a7,hbd]
theorem signL_eq{t:List UInt8}{p:Nat}(hp:p<t.length):QV t p=signN (t.getD p 0) (t.getD (p+1) 0) (decide (p+1<t.length)):=by
 unfold QV;have h1:t.drop p=t.getD p 0::t.drop (p+1):=by rw[List.drop_eq_getElem_cons hp];simp[List.getD,List.getElem?_eq_getElem hp]
 rw[h1];by_cases h2:p+1<t.length
 ·have h3:t.drop (p+1)=t.getD (p+1) 0::t.drop (p+1+1):=by rw[List.drop_eq_getElem_cons h2];simp[List.getD,List.getElem?_eq_getElem h2]
  rw[h3,decide_eq_true h2];exact signN_at _ _ _
 ·rw[List.drop_eq_nil_of_le om,decide_eq_false h2];exact signN_at1 _ _
def idxB(s:List UInt8)(b:UInt8):Int:=match (List.range s.length).find? fun i=>s.getD i 0==b with | some i=>i | none=> -1
theorem ext_indexByte {P : Program} {f : FuncId} {fn : Func} {H : Heap} {n : Nat} {k : AV → Heap → Nat → Prop} (hf : P.funcs[f]? = some fn) (hb : fn.body = none) (hn : (fn.name == "runtime.NumGoroutine") = false)
   (h1:(Extern.findNext fn).isNone=true) (h2:Extern.find fn=some Extern.BytealgIndexByte.indexByte) (s:List UInt8) (b:UInt8) (hk:k (.int .i64 (idxB s b)) H n):ExtC P f [.str s,Zd b] H n k:=fun c w vs hs hr=>by
 simp only[RelT]at hr;obtain⟨v1,_,rfl,hr1,v2,_,rfl,hr2,rfl⟩:=hr;have h1':Extern.findNext fn=none:=by simpa using h1
 simp only[Rel,Zd,List.cons.injEq,and_true]at hr1 hr2;subst hr1 hr2;refine⟨_,.int .i64 (idxB s b),c,H,n,w,?_,.refl hs,by simp[Rel],hk⟩;have e:∀i:Nat,(ByteArray.mk s.toArray)[i]! =s.getD i 0:=fun i=>by
   by_cases h:i<s.length
   ·rw[getElem!_pos _ _ (by show i<s.toArray.size;simpa using h)];simp[List.getD,List.getElem?_eq_getElem h];rfl
   ·rw[getElem!_neg _ _ (by show¬i<s.toArray.size;simpa using h)];simp[List.getD,List.getElem?_eq_none (Nat.le_of_not_lt h)];rfl
 have hc:(Extern.BytealgIndexByte.indexByte #[.string ⟨s.toArray⟩,.int .u8 b.toNat]).run P w= .ok (.int .i64 (idxB s b)) w:=by
   change Sem.run P (do
     let b'←Extern.Bytes.bytesOf (.string ⟨s.toArray⟩)
     let c'←Extern.Bytes.asByte (.int .u8 b.toNat)
     match (List.range b'.size).find? fun i=>b'[i]! ==c' with
     | some i=>pure (goInt i)
     | none=>pure (goInt (-1))) w=_
   simp only[Extern.Bytes.bytesOf,Extern.Bytes.asByte,pure_bind];have e2:((b.toNat:Int).toNat).toUInt8=b:=osi;rw[e2];have e3:(ByteArray.mk s.toArray).size=s.length:=by simp[ByteArray.size]
   rw[e3];simp only[e];unfold idxB;split<;>simp_all<;>rfl
 have hn':¬fn.name= "runtime.NumGoroutine" :=by simpa using hn
 simp[callFunc,hf,hn',hb,h1',h2,hc]
def hexS:List UInt8:=[48,49,50,51,52,53,54,55,56,57,97,98,99,100,101,102]
def hexI(c:UInt8):Int:=match hexV c with | some x=>x | none=> -1
theorem idxB_hex(c:UInt8):idxB hexS c=hexI c:=by
 have h:∀i:Fin 256,idxB hexS (UInt8.ofNat i.val)=hexI (UInt8.ofNat i.val):=by decide +kernel
 have:=h ⟨c.toNat,c.toNat_lt⟩;simpa using this
end Go.Rt
namespace Go.Sx
open Go
def tMth(P:Program)(t:TypeId)(name:String):Option FuncId:=
 match P.info? t,P.underlying t with
 | some i,some (.pointer _)=>match i.methods.find? (·.name==name)with
   | some m=>if m.path.toList.isEmpty then(match m.func with | some (f,true)=>some f | _=>none)else none
   | none=>none
 | _,_=>none
theorem run_method{P:Program}{t:TypeId}{name:String}{f:FuncId}(h:tMth P t name=some f)(k:Nat)(v:Value)(w:World):(method (k+1) t v name).run P w= .ok (f,v) w:=by
 unfold tMth at h;split at h
 ·rename_i i e hi hu;split at h
  ·rename_i m hm;split at h
   ·rename_i hp;split at h
    ·rename_i g hg;cases h;have hp':m.path.toList=[]:=by simpa using hp
     simp only[method,typeInfo,Sem.run_bind,run_program,Result.andThen_ok,hi,Sem.run_pure,hm,hp',follow,hg,receiverAt,Zc hu,Place.get]
    ·cases h
   ·cases h
  ·cases h
 ·cases h
def callI(P:Program)(name:String)(args:List AV)(H:Heap)(n:Nat)(k:AV→Heap→Nat→Prop):AV→Prop
 | .iface t v => ∃ f fn, tMth P t name = some f ∧ P.funcs[f]? = some fn ∧ fn.body.isSome = true ∧ (fn.name == "runtime.NumGoroutine") = false ∧ Zn P f (v :: args) H n fun res H' n' => match res with
     | .val r=>k r H' n'
     | .pan _=>False
 | _=>False
theorem callI_use {P : Program} {name : String} {args : List AV} {H : Heap} {n : Nat} {k : AV → Heap → Nat → Prop} {t : TypeId} {v : AV} {f : FuncId} {fn : Func} (hm : tMth P t name = some f) (hf : P.funcs[f]? = some fn) (hb : fn.body.isSome = true) (hn : (fn.name == "runtime.NumGoroutine") = false)
   {K:ARes→Heap→Nat→Prop} (h:Zn P f (v::args) H n K) (hp:∀p H' n',¬K (.pan p) H' n') (hk:∀r H' n',K (.val r) H' n'→k r H' n'):callI P name args H n k (.iface t v):=
 ⟨f,fn,hm,hf,hb,hn,h.mono fun res H' n' V=>by cases res with | val r=>exact hk _ _ _ V | pan p=>exact hp _ _ _ V⟩
theorem ot_invoke{P : Program}{dst : Option Tmp}{ty : TypeId}{pos : String}{after : Array Edge}{guard : Option (Nat × Bool)}{recv : Operand}{name : String}{args : Array Operand}{ts : Array TypeId}{ε : Operand → AV}{H : Heap}{n : Nat}{k : AV → Heap → Nat → Prop}
   (h:callI P name (args.toList.map ε) H n k (ε recv)):
   OpT P ⟨dst,.call ⟨.invoke recv name,args,ts⟩,ty,pos,after,guard⟩ ε H n (fun res H' n'=>match res with | .val r=>k r H' n' | .pan _=>False):=fun c w a hs hr next Q hn hp=>by
 obtain⟨az⟩:=args;have hf:=hr recv (by simp[Op.operands,Call.operands]);have hargs:RelT c (az.map ε) (az.map a.eval):=RelT.of_map az fun x hx=>hr x (by simp[Op.operands,Call.operands,hx]);generalize ε recv=rv at h hf;cases rv<;>simp only[callI]at h;rename_i t v;obtain⟨f,fn,hm,hfn,hbody,hname,hcall⟩:=h;simp only[Rel,List.cons.injEq,and_true]at hf;obtain⟨x,ex,hx⟩:=hf;have hT:RelT c (v::az.map ε) (x::az.map a.eval):=⟨x,_,rfl,hx,hargs⟩;have hrun:(execOp a.eval ⟨dst,.call ⟨.invoke recv name,az.toArray,ts⟩,ty,pos,after,guard⟩).run P w= .ok (.enter f (x::az.map a.eval).toArray) w:=by
   have hb:fn.body.isNone=false:=by cases hh:fn.body<;>simp_all
   have hd:P.types.size+Made.depth=(P.types.size+99)+1:=rfl;simp only[execOp,resolve,ex,Sem.run_bind,Sem.run_pure,Result.andThen_ok,invoke,callMethod,callFunc,run_program,hd];have hn1:¬fn.name= "runtime.NumGoroutine" :=by simpa using hname
   have hb1:¬fn.body=none:=by cases hh:fn.body<;>simp_all
   have et:List.take az.length (List.map a.eval az)=az.map a.eval:=List.take_of_length_le osi;simp[callMethod,ex,run_method hm,callFunc,hfn,hn1,hb1,hd,et]
 unfold Oper.wp;rw[hrun];simp only[Oper.upon];refine(hcall c w _ hs hT).mono ?_;rintro e w' ⟨res,c',H',n',V,hst,hm⟩;cases e with
 | returned v=>
   cases res with
   | val r=>exact hn r v c' H' n' w' V hst hm
   | pan p=>exact hm.elim
 | panicked ch=>
   cases res with
   | val r=>exact hm.elim
   | pan p=>exact V.elim
 | outgrown=>cases res<;>exact hm.elim
theorem MQ{P : Program}{N id : Nat}{l : List Oper}{y : Code}{T : Nat → AV}{H : Heap}{n : Nat}{Q : QK}(z : TypeId → AV)(live : List Nat)(i : Nat){dst : Option Tmp}{recv : Operand}{name : String}{args : List Operand}{ts : Array TypeId}{ty : TypeId}{pos : String}{after : Array Edge}
   (ho:l=l.take i++⟨dst,.call ⟨.invoke recv name,args.toArray,ts⟩,ty,pos,after,none⟩::l.drop (i+1)) (hd:dOK N dst)
   (h:∀K:KT,(∀T H n,awp P N y T H n Q→K T H n)→
     erun P z N l.toArray (l.take i) T H n (ZK (fun T1 H1 n1=>callI P name (args.map (evO T1)) H1 n1 (fun r H2 n2=>erun P z N l.toArray (l.drop (i+1)) (tput T1 dst r) H2 n2 (ZK (fun T' H' n'=>K (tsel live T') H' n') Q)) (evO T1 recv)) Q)):
   awp P N (.seq (.region id l.toArray false) y) T H n Q:=by
 refine JN ?_;have key:lrun P N l.toArray l T H n (ZK (fun T' H' n'=>awp P N y (tsel live T') H' n' Q) Q):=by
   have h1:=h (fun T H n=>awp P N y T H n Q) (fun _ _ _ h=>h);have:lrun P N l.toArray (l.take i++⟨dst,.call ⟨.invoke recv name,args.toArray,ts⟩,ty,pos,after,none⟩::l.drop (i+1)) T H n (ZK (fun T' H' n'=>awp P N y (tsel live T') H' n' Q) Q):=by
     refine Yx ?_ ?_ _ _ _ _ h1
     ·intro T1 H1 n1 hA c w a hs hr hN ds hdf;have hA:=hA;simp only[ZK]at hA
      exact YB (o:=⟨dst,.call ⟨.invoke recv name,args.toArray,ts⟩,ty,pos,after,none⟩) (kp:=fun _ _ _=>False) hd ((ot_invoke (ε:=evO T1) (args:=args.toArray) hA).mono fun r H n hk=>by cases r<;>exact hk) hs hr hN hdf (YT rfl) (fun x _=>Wy hr x) (fun x=>x) (fun _ _ _ h=>h)
        (fun r H' n' hk=>Z9 _ _ _ _ hk) (fun _ _ _ h=>h.elim)
     ·intro p T H n h;exact h
   rw[←ho]at this;exact this
 have hr:awp P N (.region id l.toArray false) T H n (ZK (fun T' H' n'=>awp P N y (tsel live T') H' n' Q) Q):=fun c w a hs hr hN ds hd=>wp_region_list (by simpa using key c w a hs hr hN ds hd);exact hr.mono fun e T' H' n' hq=>by
   exact kcJ
theorem awp_label{P:Program}{N:Nat}{T:Nat→AV}{H:Heap}{n:Nat}{Q:QK}{l:Nat}(h:Q .normal T H n):awp P N (.label l) T H n Q:=fun c _ _ hs hr hN ds hd=>
 wp_label ⟨.normal,c,T,H,n,h,trivial,.refl hs,hr,hN,hd⟩
theorem awp_scope{P:Program}{N:Nat}{x:Code}{T:Nat→AV}{H:Heap}{n:Nat}{Q:QK}(h:awp P N x T H n Q):awp P N (.scope x) T H n Q:=fun c w a hs hr hN ds hd=>
 wp_scope_straight (Go.wp_mono (h c w a hs hr hN ds hd) fun e a' w' hq=>by
   cases e with
   | goto l=>
     obtain⟨ae,c',T',H',n',hQ,hm,_⟩:=hq;cases ae<;>exact hm.elim
   | _=>exact hq)
def gW(g:Bool)(X Y:Prop):Prop:=(g=true→X)∧(g=false→Y)
theorem gW_tt(X Y:Prop):gW (true==true) X Y=X:=by simp[gW]
theorem gW_t(X Y:Prop):gW true X Y=X:=by simp[gW]
theorem gW_ff(X Y:Prop):gW (false==false) X Y=X:=by simp[gW]
theorem gW_f(X Y:Prop):gW false X Y=Y:=by simp[gW]
theorem PH(P:Program)(z:TypeId→AV)(N:Nat)(ops:Array Oper)(T:Nat→AV)(H:Heap)(n:Nat)(Q:QK)(dst:Option Tmp)(ty:TypeId)(pos:String)(after:Array Edge)(os:List Oper)(j:Nat)(bb:Bool)(t:TypeId)(k:Nat)(p:Array (Nat×Operand)):erun P z N ops (⟨dst,.buildSlice t k p,ty,pos,after,some (j,bb)⟩::os) T H n Q=(dOK N dst∧Z7 ((gtmp ops j).bind fun t=>gval (T t) bb) fun g=>gW g (Y7 (opW P z H n T (.buildSlice t k p)) fun r H' n'=>erun P z N ops os (tput T dst r) H' n' Q) (erun P z N ops os (tput T dst (.opt false .junk)) H n Q)):=rfl
attribute [go_sem] PH gW_tt gW_t gW_ff gW_f
end Go.Sx