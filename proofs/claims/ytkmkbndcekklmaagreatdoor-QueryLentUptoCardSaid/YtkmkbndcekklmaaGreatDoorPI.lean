/- Own layer: the walk through parse and its catch. Of the program; no condition. -/
import Derived.Test.YtkmkbndcekklmaaGreatDoorPH
import Derived.Test.YtkmkbndcekklmaaGreatDoorPF
import Derived.Test.YtkmkbndcekklmaaGreatDoorPE
import Derived.Test.YtkmkbndcekklmaaGreatDoorPG
import Derived.Test.YtkmkbndcekklmaaGreatDoorPD
set_option linter.unusedSimpArgs false
set_option linter.unusedVariables false
set_option maxRecDepth 10000
namespace Go.Proofs.YtkmkbndcekklmaaGreatDoor
open Go Go.Sx Go.Rt Go.Proofs Tryz
structure J8(k:Nat)(a b c d:AV)(H:Heap):Prop where
 c1:H k=some (.arr 0 1 [a])
 c2:H (k+1)=some (.arr 0 1 [b])
 c3:H (k+2)=some (.arr 0 1 [c])
 c4:H (k+3)=some (.arr 0 1 [d])
 sz:a.sz=1∧b.sz=1∧c.sz=1∧d.sz=1
open N0 in
theorem Jh{k:Nat}{H:Heap}{n:Nat}:WG prog 77 [.loc k 0 0 0 [],.loc (k+1) 0 0 0 [],.loc (k+2) 0 0 0 [],.loc (k+3) 0 0 0 []] .ret H n (fun m' H' n'=>m'= .ret∧H'=H∧n'=n):=by
 refine Rf zs [0,1,2,3,7] 0 func77 rfl ntmps77 (congrArg Array.toList results77) osi rfl (by show _<_;decide) fun K V=> ?_;refine ns ?_;refine kad ?_;refine kbM ?_;refine rg zs [0,1,2,3,7,9] ?_;refine Zb ?_ ?_<;>intro hb
 ·refine rg1 zs [] ?_;trivial
 exact kaJ
theorem NQg0.eqs{P Q:Prop}(g:Imp P Q:=by(try simp only[go_sem,seval,h1,h2,h3,h4,z1,z2,z3,z4,g1,g2,g3,g4,g5,g6,g7,g8,g9,f1,f2,f3,f4,f5]);exact Imp.rf):Imp P Q:=g
open NQg0 NY in
theorem XI{k:Nat}{a b c d:AV}(p:Nat){H:Heap}{n:Nat}(hk:k+3<n)(h:J8 k a b c d H):WG prog 77 [.loc k 0 0 0 [],.loc (k+1) 0 0 0 [],.loc (k+2) 0 0 0 [],.loc (k+3) 0 0 0 []] (.pan (U5 p)) H n (fun m' H' n'=>m'= .ret∧n≤n'∧J8 k .nilf (.str []) (.int .i64 p) (.bool false) H'∧∀j,j<k→H' j=H j):=by
 unfold U5;have h1:=h.c1;have h2:=h.c2;have h3:=h.c3;have h4:=h.c4;obtain⟨z1,z2,z3,z4⟩:=h.sz;have g1:(k=n)=False:=oz;have g2:(k+1=n)=False:=oz;have g3:(k+2=n)=False:=oz;have g4:(k+3=n)=False:=oz;have g5:(k+1=k)=False:=osi;have g6:(k+2=k)=False:=osi;have g7:(k+3=k)=False:=osi;have g8:(k+2=k+1)=False:=osi;have g9:(k+3=k+1)=False:=osi;have f1:(k+3=k+2)=False:=osi;have f2:(n=k)=False:=oz;have f3:(n=k+1)=False:=oz;have f4:(n=k+2)=False:=oz;have f5:(n=k+3)=False:=oz;refine Rf zs [0,1,2,3,7] 0 func77 rfl ntmps77 (congrArg Array.toList results77) osi rfl (by show _<_;decide) fun K V=> ?_;refine ns ?_;refine kad ?_;refine kbM ?_;refine rg zs [0,1,2,3,7,9] ?_;refine Zb ?_ ?_<;>intro hb
 ·exact kaJ
 refine rg zs [0,1,2,3,7,11,12] ?_;refine Zb ?_ ?_<;>intro hb
 ·refine rg zs [0,1,2,3,5] ?_;refine dx1 zs [] [.q,.q,.w [0,1],.w [0,1],.w [],.w []] [0,1,2,3,4,5] [0,1,2,3,4,5] fun K V=> ?_;refine kas ?_;refine ns ?_;refine⟨om,⟨by simp[Heap.put],by simp[Heap.put],by simp[Heap.put],by simp[Heap.put],rfl,rfl,rfl,rfl⟩,fun j hj=> ?_⟩
  try simp only[Rl]
  (repeat rw[if_neg om])
 exact kaJ
def KE:Except Nat (Tst×List UInt8)→AV
 | .ok x=> .tup [Yn x.1,.str x.2,.int .i64 0,.bool true]
 | .error p=> .tup [.nilf,.str [],.int .i64 p,.bool false]
def NoPan(Q:QK):QK:=fun e T H n=>match e with | .pan _=>False | e=>Q e T H n
theorem awp_noPan{P:Program}{N:Nat}{code:Code}{T:Nat→AV}{H:Heap}{n:Nat}{Q:QK}(h:awp P N code T H n (NoPan Q)):awp P N code T H n Q:=
 h.mono fun e _ _ _ hq=>by cases e<;>first | exact hq | exact hq.elim
def qst0:Qst:=⟨0,⟨0,0,[],0,[]⟩,[],0⟩
theorem step_QI{t:List UInt8}(ht:t.length≤512){s:Qst}(h:Ue t qst0= .ok s):QI t s:=by
 unfold Ue at h;obtain⟨x,hx,hy⟩:=map_ok h;obtain⟨g1,g2,g3,g4,g5⟩:=UK ht (Nat.zero_le _) (w:=x.1) (q:=x.2) hx;subst hy;refine⟨g2,?_,Nat.zero_le _,fun w hw=>(by cases hw),g5⟩;show([]:List Wd).length+_≤_;unfold Qst.m;simp only[List.length_nil];split<;>omega
theorem qi_mle{t:List UInt8}{s:Qst}(h:QI t s):s.m t≤t.length+1:=by have:=h.out;omega
theorem J8.on{k:Nat}{a b c d:AV}{H H':Heap}(h:J8 k a b c d H)(hl:∀j,k≤j→j<k+4→H' j=H j):J8 k a b c d H':=
 ⟨(hl _ om om).trans h.c1,(hl _ om om).trans h.c2,(hl _ om om).trans h.c3,(hl _ om om).trans h.c4,h.sz⟩
theorem NQg1.eqs{P Q:Prop}(g:Imp P Q:=by(try simp only[go_sem,seval,hszs,hags,hmos,qg,f1,f2,f3,f4]);exact Imp.rf):Imp P Q:=g
set_option maxHeartbeats 3200000 in
open NQg1 NY in
theorem UE(fs:List Fml)(hfs:fs.length≤1048576)(t:List UInt8)(H:Heap)(n:Nat):Ret prog 51 [Zh fs,.str t] H n (KE (Wu fs t)) H n:=by
 have hszs:(Zh fs).sz=1:=rfl;have hags:(Zh fs).isAgg=true:=rfl;have hmos:(Zh fs).memOK=true:=rfl;have hR1:=hszs;have c1:=hszs;have c2:=hszs;have hB:=hszs;have hO1:=hszs;have hnth:=hszs;have hx:=hszs;obtain⟨r,hr⟩:∃r,r=Wu fs t:=⟨_,rfl⟩;rw[←hr];unfold Wu at hr;have f1:(n=n+1)=False:=osi;have f2:(n=n+2)=False:=osi;have f3:(n=n+3)=False:=osi;have f4:(n=n+4)=False:=osi;refine Ret.fin ?_;refine Re func51 rfl ntmps51 (congrArg Array.toList results51) osi ?_;simp only[go_sem];refine awpD_reg zs [1,2,4,5,6,7] fun K V=> ?_;refine nz ?_;refine kas ?_;refine awpD_seq_k fun K1 hK1=> ?_;refine rg zs [1,2,4,5,6,7,13] ?_;refine Zb ?_ ?_<;>intro hb
 ·have hb8:512<t.length:=ott;rw[if_pos hb8]at hr;refine rg zs [4,5,6,7] ?_;refine ar ?_
  try simp only[NoPan,FinD]
  exact⟨_,rfl,fun k hk=>onn,by rw[hr];exact .kl ⟨trivial,trivial,trivial,trivial,trivial⟩⟩
 have hb8:¬512<t.length:=otf;rw[if_neg hb8]at hr;refine kay ?_;refine awpD_def zs [1,2,4,5,6,7] 1 rfl trivial fun K V=> ?_;refine ns ?_;refine⟨⟨_,func77,rfl,rfl⟩,?_⟩;refine nz ?_;refine kas ?_;refine ZG (fun H' n'=>H' n=some (.arr 0 1 [Zh fs])∧J8 (n+1) .nilf (.str []) (.int .i64 0) (.bool false) H'∧(∀k,k<n→H' k=H k)∧n'=n+5) ⟨by simp[Heap.put,Zh],⟨by simp[Heap.put],by simp[Heap.put],by simp[Heap.put],by simp[Heap.put],rfl,rfl,rfl,rfl⟩,fun k hk=>oh,om⟩ fun H5 n5 ⟨r1,hC,hl5,hn5⟩=> ?_;subst hn5;refine Zg zs [4,5,6,7,8] fun K V=> ?_
 try simp only[go_sem,seval,hszs,hags,hmos,qg,f1,f2,f3,f4,r1]
 refine kad ?_;refine ZO (n+5) 5 (ver:=0) (e:=10) (els:=[.agg [Zh fs,.str t,.int .i64 0,.agg [.int .i64 0,.int .i64 0,.str [],.int .i64 0,.nilsl],.nilsl,.int .i64 0]]) (els':=[.agg [Zh fs,.str t,.int .i64 0,.agg [.int .i64 0,.int .i64 0,.str [],.int .i64 0,.nilsl],.osl (n+6) 0 0 0,.int .i64 0]]) (by simp[Heap.put,Zh]) ⟨Adp.agg ⟨.refl _ _,.refl _ _,.refl _ _,.refl _ _,Adp.nilsl _,.refl _ _,trivial⟩,trivial⟩ ?_;refine QA (n+5) (ver:=0) (e:=10) (els:=[.agg [Zh fs,.str t,.int .i64 0,.agg [.int .i64 0,.int .i64 0,.str [],.int .i64 0,.nilsl],.osl (n+6) 0 0 0,.int .i64 0]]) (els':=[.agg [Zh fs,.str t,.int .i64 0,.agg [.int .i64 0,.int .i64 0,.str [],.int .i64 0,.sl 1 []],.osl (n+6) 0 0 0,.int .i64 0]]) (Rm _ _ _) ⟨Wk.agg ⟨.refl _,.refl _,.refl _,Wk.agg ⟨.refl _,.refl _,.refl _,.refl _,.nilsl _,trivial⟩,.refl _,.refl _,trivial⟩,trivial⟩ ?_;refine ZG (fun H' n'=>QdH fs t (n+5) (n+6) qst0 0 H' n'∧J8 (n+1) .nilf (.str []) (.int .i64 0) (.bool false) H'∧(∀k,k<n→H' k=H k)∧n'=n+7) ⟨⟨om,om,om,by simp[Heap.put,qdO,qst0,Zh,wdAV,bys],by simp[Heap.put,outO,qst0]⟩,hC.on (fun j a1 a2=>oh),fun k hk=>ohx (hl5 k hk),om⟩ fun H6 n6 ⟨hQ,hC,hl6,hn6⟩=> ?_;subst hn6;refine rk zs [4,5,6,7,8] fun K V=> ?_;refine cK func78 (Lh fs t qst0 (n+5) (n+6) 0 om (Nat.zero_le _) _ _ hQ) ?_ ?_
 ·rintro q9 H9 n9 hc;obtain⟨p,he,rfl,hn,hl⟩:=hc.pan;have hr:=hr.trans (bind_err (Yv he));refine(XI (k:=n+1) p om (hC.on fun j a1 a2=>hl _ om om om)).mono ?_;rintro m' H' n' ⟨rfl,q1,q2,q3⟩;have c1:=q2.c1;have c2:=q2.c2;have c3:=q2.c3;have c4:=q2.c4;simp only[FinA,go_sem,seval,qg]at c1 c2 c3 c4 ⊢;simp only[FinA,go_sem,seval,qg,c1,c2,c3,c4];exact⟨_,rfl,fun k hk=>(q3 k om).trans ((hl k om om om).trans (hl6 k hk)),by rw[hr];exact .kl ⟨trivial,trivial,trivial,trivial,trivial⟩⟩
 rintro rr H7 n9 hc;obtain⟨x1,v1,he,h1,rfl,hl1⟩:=hc.got om om om;obtain⟨_,hx1,hy⟩:=map_ok he;cases hy;have hI1:=step_QI om hx1;have hm1:=qi_mle hI1;rw[show Ue t ⟨0,⟨0,0,[],0,[]⟩,[],0⟩= .ok x1 from hx1,ZY]at hr;have hC:=hC.on (H':=H7) fun j a1 a2=>hl1 _ om om;refine nz ?_;refine kas ?_;refine Zg zs [4,5,6,7,8] fun K V=> ?_
 try simp only[go_sem,seval,hszs,hags,hmos,qg,f1,f2,f3,f4,c1,Xd,Xe,Xf,YH]
 repeat refine peel ?_
 refine cK func79 ((MM hfs om (8*t.length+16)).2.2 _ (Nat.le_refl _) x1 v1 _ _ hI1 om h1) ?_ ?_
 ·rintro q9 H9 n9 hc;obtain⟨p,he,rfl,hn,hl⟩:=hc.pan;have hr:=hr.trans (bind_err (Yv he));refine(XI (k:=n+1) p om (hC.on fun j a1 a2=>hl _ om om om)).mono ?_;rintro m' H' n' ⟨rfl,q1,q2,q3⟩;have c1:=q2.c1;have c2:=q2.c2;have c3:=q2.c3;have c4:=q2.c4;simp only[FinA,go_sem,seval,qg]at c1 c2 c3 c4 ⊢;simp only[FinA,go_sem,seval,qg,c1,c2,c3,c4];exact⟨_,rfl,fun k hk=>(q3 k om).trans ((hl k om om om).trans ((hl1 k om om).trans (hl6 k hk))),by rw[hr];exact .kl ⟨trivial,trivial,trivial,trivial,trivial⟩⟩
 rintro rr H8 n9 hc;obtain⟨_,v2,he,h2,rfl,hl2⟩:=hc.got om om om;obtain⟨x2,hx2,hy⟩:=map_ok he;cases hy;have hg2:=(Vq om _).1 x1 x2.1 x2.2 hI1 hx2;rw[hx2,ZY]at hr;have hC:=hC.on (H':=H8) fun j a1 a2=>hl2 _ om om;have c1:=hC.c1
 try simp only[go_sem,seval,hszs,hags,hmos,qg,f1,f2,f3,f4,c1,Xd,Xe,Xf,YH]
 refine kad ?_;refine Za fun K2 hK2=> ?_;refine ZG (fun H' n'=>QdH fs t (n+5) (n+6) x2.2 v2 H' n'∧J8 (n+1) (Yn x2.1) (.str []) (.int .i64 0) (.bool false) H'∧(∀k,k<n→H' k=H k)∧n'=n+7) ⟨h2.on (Rk _ _ om) (Rk _ _ om) (Nat.le_refl _),⟨Rm _ _ _,(Rk _ _ om).trans hC.c2,(Rk _ _ om).trans hC.c3,(Rk _ _ om).trans hC.c4,Xd _,rfl,rfl,rfl⟩,fun k hk=>by rw[Rk _ _ om,hl2 k om om,hl1 k om om];exact hl6 k hk,om⟩ fun H9 n9 ⟨hQ,hC,hl9,hn9⟩=> ?_;subst hn9;have hR1:=hQ.r;unfold qdO at hR1;refine Zg zs [4,5,6,7,8,28] fun K V=> ?_;refine kcG ?_;refine kad ?_;refine Zb ?_ ?_<;>intro hb
 ·have hb1:x2.2.nxt.kind≠0:=by have h9:=hb;simp at h9;omega
  rw[if_pos hb1]at hr;refine ZP zs [4,5,6,7,8] fun K V=> ?_;refine kcG ?_
  repeat refine peel ?_
  refine Zw (args':=[.int .i64 x2.2.nxt.pos]) func80 rfl rfl rfl (Ye x2.2.nxt.pos _ _) ?_ ?_
  ·rintro rr H' n' ⟨rfl,rfl,hz⟩;cases hz
  rintro q9 H' n' ⟨rfl,rfl,hz⟩;cases hz;refine(XI (k:=n+1) x2.2.nxt.pos om hC).mono ?_;rintro m' H' n' ⟨rfl,q1,q2,q3⟩;have c1:=q2.c1;have c2:=q2.c2;have c3:=q2.c3;have c4:=q2.c4;simp only[FinA,go_sem,seval,qg]at c1 c2 c3 c4 ⊢;simp only[FinA,go_sem,seval,qg,c1,c2,c3,c4];exact⟨_,rfl,fun k hk=>(q3 k om).trans (hl9 k hk),by rw[hr];exact .kl ⟨trivial,trivial,trivial,trivial,trivial⟩⟩
 have hb1:¬x2.2.nxt.kind≠0:=by have h9:=hb;simp at h9;omega
 rw[if_neg hb1]at hr;refine kaQ ?_;refine Za fun K3 hK3=> ?_;refine Zg zs [4,5,6,7,8,38,39,40] fun K V=> ?_;refine kcG ?_;refine kad ?_;refine kbM ?_;refine Zk (fun T' H' n'=>∃i:Nat,i≤x2.2.out.length∧T'=tl [(4,.loc (n+1) 0 0 0 []),(5,.loc (n+2) 0 0 0 []),(6,.loc (n+3) 0 0 0 []),(7,.loc (n+4) 0 0 0 []),(8,.loc (n+5) 0 0 0 []),(38,.osl (n+6) v2 0 x2.2.out.length),(39,.int .i64 x2.2.out.length),(40,.int .i64 i)]∧QdH fs t (n+5) (n+6) x2.2 v2 H' n'∧J8 (n+1) (Yn x2.1) (.str (Wz none (x2.2.out.take i))) (.int .i64 0) (.bool false) H'∧(∀k,k<n→H' k=H k)∧n+7≤n') (fun T' _ _=>x2.2.out.length-iv (T' 40)) ?_ ?_
 ·exact⟨0,Nat.zero_le _,rfl,hQ,hC,hl9,Nat.le_refl _⟩
 rintro T1 H1 n1 ⟨i,hi,rfl,hQ,hC,hl9,hn1⟩;have hR1:=hQ.r;unfold qdO at hR1;have hO1:=hQ.o;unfold outO at hO1;have c1:=hC.c1;have c2:=hC.c2;have c3:=hC.c3;have c4:=hC.c4;have g1:(n+5=n1)=False:=oz;have g2:(n+6=n1)=False:=oz;have g3:(n+2=n1)=False:=oz;have g4:(n1=n+2)=False:=oz;have hol:=hg2.1.outs om;refine rg zs [4,5,6,7,8,38,39,40,41] ?_;refine Za fun K4 hK4=> ?_;refine Zb ?_ ?_<;>intro hb
 ·have hlt:i<x2.2.out.length:=ott;have hnth:nth (x2.2.out.map wdAV) i=wdAV (x2.2.out.getD i default):=Zr wdAV _ _ hlt;have hnth2:nth (x2.2.out.map wdAV) ((i:Int)-1).toNat=wdAV (x2.2.out.getD (i-1) default):=by rw[show((i:Int)-1).toNat=i-1 by omega];exact Zr wdAV _ _ om
  have hx:IntKind.i64.wrap ((i:Int)+1)=((i+1:Nat):Int):=w1 om;have hx2:IntKind.i64.wrap ((i:Int)-1)=(i:Int)-1:=w64 om om;have hcan:=canonG_take x2.2.out hlt;have hcl:=PP (x2.2.out.take i) none (fun w hw=>hg2.1.text w (List.mem_of_mem_take hw));rw[qk]at hcl;have htx:=hg2.1.text _ (Yj x2.2.out hlt);refine kb3 ?_;refine bk fun K5 hK5=> ?_;refine Zg zs [4,5,6,7,8,9,10,38,39,40] fun K V=> ?_;refine kbb ?_
  repeat (first | (refine And.intro ?_ ?_;· first | exact⟨om,om⟩) | refine peel ?_)
  refine kas ?_;refine Za fun K6 hK6=> ?_;refine Zg zs [4,5,6,7,8,10,38,39,40,63] fun K V=> ?_
  try simp only[go_sem,seval,hszs,hags,hmos,qg,f1,f2,f3,f4,hR1,hO1,c2,g1,g2,g3,g4,hnth,hx,wdAV,qb,qd,hnth2,hx2]
  repeat (first | (refine And.intro ?_ ?_;· first | (intro hx9;rcases Nat.eq_zero_or_pos i with q | q;(rw[decide_eq_false om]at hx9;cases hx9);first | exact⟨om,om⟩ | omega) | (intros;simp_all;done)) | refine peel ?_)
  refine kas ?_;refine Zb ?_ ?_<;>intro hb
  ·have hsep : XX (if i = 0 then none else some (x2.2.out.getD (i - 1) default)) (x2.2.out.getD i default) = [32] := by
     have hi0:i≠0:=by intro e;rw[e]at hb;simp at hb
     rw[if_neg hi0];unfold XX;rw[decide_eq_true om]at hb;simp at hb;simp[hb.1,hb.2]
   refine ZP zs [4,5,6,7,8,10,38,39,40] fun K V=> ?_
   try simp only[go_sem,seval,hszs,hags,hmos,qg,f1,f2,f3,f4,hR1,hO1,c2,g1,g2,g3,g4,hnth,hx,wdAV,qb,qd]
   repeat refine peel ?_
   apply V;clear V K;refine ns ?_;apply hK6;refine ZP zs [4,5,6,7,8,38,39,40] fun K V=> ?_
   try simp only[go_sem,seval,hszs,hags,hmos,qg,f1,f2,f3,f4,hR1,hO1,c2,g1,g2,g3,g4,hnth,hx,wdAV,qb,qd]
   repeat (first | (refine And.intro ?_ ?_;· first | (simp only[qe,qi,List.length_nil];omega)) | refine peel ?_)
   apply V;clear V K;refine ns ?_;apply hK5;refine ZP zs [4,5,6,7,8,38,39,40] fun K V=> ?_
   try simp only[go_sem,seval,hszs,hags,hmos,qg,f1,f2,f3,f4,hR1,hO1,c2,g1,g2,g3,g4,hnth,hx,wdAV,qb,qd]
   repeat refine peel ?_
   apply V;clear V K;refine ns ?_;refine⟨⟨i+1,om,rfl,hQ.on oh oh om,⟨?_,?_,?_,?_,hC.sz.1,rfl,rfl,rfl⟩,fun k hk=>ohx (hl9 k hk),om⟩,om⟩
   ·refine ohx ?_;exact hC.c1
   ·rw[Rm,hcan,hsep];simp
   ·refine ohx ?_;exact hC.c3
   ·refine ohx ?_;exact hC.c4
  have hsep:XX (if i=0 then none else some (x2.2.out.getD (i-1) default)) (x2.2.out.getD i default)=[]:=by
    by_cases hi0:i=0
    ·rw[if_pos hi0];rfl
    ·rw[if_neg hi0];unfold XX;simp only;rw[if_neg];rintro⟨a1,a2⟩;rw[decide_eq_true om,show((x2.2.out.getD i default).text==[41])=false by simpa using a1,show((x2.2.out.getD (i-1) default).text==[40])=false by simpa using a2]at hb;cases hb
  refine ak ?_;apply hK6;refine ZP zs [4,5,6,7,8,38,39,40] fun K V=> ?_;refine kbb ?_;refine kad ?_;refine ns ?_;apply hK5;refine ZP zs [4,5,6,7,8,38,39,40] fun K V=> ?_;refine kbb ?_;refine kad ?_;refine ns ?_;refine⟨⟨i+1,om,rfl,hQ.on oh oh om,⟨?_,?_,?_,?_,hC.sz.1,rfl,rfl,rfl⟩,fun k hk=>ohx (hl9 k hk),om⟩,om⟩
  ·refine ohx ?_;exact hC.c1
  ·rw[Rm,hcan,hsep];simp
  ·refine ohx ?_;exact hC.c3
  ·refine ohx ?_;exact hC.c4
 have hge:i=x2.2.out.length:=otf;have htk:x2.2.out.take i=x2.2.out:=List.take_of_length_le om;refine ax ?_;apply hK3;refine awp_noPan ?_;refine Y0 rfl zs [4,5,6,7] [.q,.q,.w [1],.w [],.w [],.w []] [0,1,2,3,4,5] [0,1,2,3,4,5] (by kernel_rfl) (fun _ _ _ _ _ h=>h) fun K V=> ?_
 try simp only[go_sem,seval,hszs,hags,hmos,qg,f1,f2,f3,f4,c1,c2,c3,c4,Xd,Xe,Xf,YH]
 refine kad ?_;refine ZG (fun H' n'=>J8 (n+1) (Yn x2.1) (.str (Wz none x2.2.out)) (.int .i64 0) (.bool true) H'∧(∀k,k<n→H' k=H k)) ⟨⟨by simp[Heap.put],by simp[Heap.put,htk],by simp[Heap.put],by simp[Heap.put],Xd _,rfl,rfl,rfl⟩,fun k hk=>ohx (hl9 k hk)⟩ fun Hz nz ⟨hC,hlz⟩=> ?_;refine ar ?_
 try simp only[NoPan,FinD]
 first
 | (refine (Jh (k := n + 1)).mono ?_
    rintro m' H' n' ⟨rfl,rfl,rfl⟩;have c1:=hC.c1;have c2:=hC.c2;have c3:=hC.c3;have c4:=hC.c4;simp only[FinA,go_sem,seval,qg]at c1 c2 c3 c4 ⊢;simp only[FinA,go_sem,seval,qg,c1,c2,c3,c4,Xd,Xe,Xf,YH]
    try refine⟨trivial,?_⟩
    exact⟨_,rfl,hlz,by rw[hr];exact .kl ⟨Xu _ _,trivial,trivial,trivial,trivial⟩⟩)
theorem NQh0.eqs{P Q:Prop}(g:Imp P Q:=by(try simp only[go_sem,seval,hszs,hags,hmos,KE]);exact Imp.rf):Imp P Q:=g
open NQh0 NY in
theorem Ko(fs:List Fml)(hfs:fs.length≤1048576)(t:List UInt8)(H:Heap)(n:Nat):Ret prog 39 [Zh fs,.str t] H n (.tup [.str (Xc fs t).1,.int .i64 (Xc fs t).2.1,.int .i64 (Xc fs t).2.2]) H n:=by
 have hszs:(Zh fs).sz=1:=rfl;have hags:(Zh fs).isAgg=true:=rfl;have hmos:(Zh fs).memOK=true:=rfl;refine Ret.fin ?_;refine fw func39 ntmps39 results39 ?_;refine rg zs [1,2] ?_;refine Za fun K1 hK1=> ?_;refine rc zs [1,2,7] func66 ((V8 fs _ _)) ?_;refine rg zs [1,2,7,15] ?_;refine Zb ?_ ?_<;>intro hb
 ·have hw:Xc fs t=([],Zy fs,0):=by unfold Xc;rw[if_pos osb]
  exact ka5
 have hs0:Zy fs=0:=osb;refine kay ?_;rcases hp:Wu fs t with p | x
 ·have hw:Xc fs t=([],131,(p:Int)):=by unfold Xc;rw[if_neg (by simp[hs0]),hp]
  refine rc zs [9,10,11] func51 ((hp▸UE fs hfs t _ _)) ?_;refine Za fun K2 hK2=> ?_;refine rg zs [9,10,26] ?_;refine Zb ?_ ?_<;>intro hb
  ·exact ka5
  exact kaJ
 ·have hw:Xc fs t=(x.2,0,0):=by unfold Xc;rw[if_neg (by simp[hs0]),hp]
  refine rc zs [9,10,11] func51 ((hp▸UE fs hfs t _ _)) ?_;refine Za fun K2 hK2=> ?_;refine rg zs [9,10,26] ?_;refine Zb ?_ ?_<;>intro hb
  ·exact kaJ
  refine kaQ ?_;exact ka5
theorem XW{H:Heap}{n:Nat}{a b:Bool}(h:a=b):Frz H n (.bool a) (.bool b):=h▸ .kl trivial
theorem NQh1.eqs{P Q:Prop}(g:Imp P Q:=by(try simp only[go_sem,seval,hsz,Ze,Zx,bys,qb]);exact Imp.rf):Imp P Q:=g
open NQh1 NY in
theorem c_query_asks(q:QryE)(row:List UInt8)(H:Heap)(n:Nat):Ret prog 95 [Ze q,bys row] H n (.bool (YX q row)) H n:=by
 have hsz:(Ze q).sz=10:=ZT q;refine Ret.fin ?_;refine fw func95 ntmps95 results95 ?_;refine rg zs [1,2] ?_;refine rk zs [4] fun K V=> ?_;refine ck func54 ((Yk row q.frm _ _)) ?_;refine cg func54 (fun _=>(Yk row q.to _ _)) ?_;refine kas ?_;refine ar ?_;refine⟨_,rfl,fun k hk=>onn,XW ?_⟩;unfold YX;have e1:((q.to.length:Int)==0)=decide (q.to.length=0):=by rw[Bool.eq_iff_iff,beq_iff_eq,decide_eq_true_eq];omega
 rw[e1];exact kcP
theorem NQh2.eqs{P Q:Prop}(g:Imp P Q:=by(try simp only[go_sem,seval,hsz,hszs,Zh,Ze,Zx,bys,qb,f1,f2]);exact Imp.rf):Imp P Q:=g
theorem NQh2.sd{P:Prop}(g:P:=by first | (intros;simp_all;done) | fail):P:=g
set_option maxHeartbeats 1600000 in
open NQh2 NZ in
theorem c_query_fits(fs:List Fml)(hfs:fs.length≤1048576)(q:QryE)(hq:q.fams.length≤1048576)(H:Heap)(n:Nat):Ret prog 67 [Zh fs,Ze q] H n (.bool (Yy fs.length q)) H n:=by
 have hszs:(Zh fs).sz=1:=rfl;have hsz:(Ze q).sz=10:=ZT q;have f1:(n=n+1)=False:=osi;have f2:(n+1=n)=False:=osi;refine Ret.fin ?_;refine fw func67 ntmps67 results67 ?_;refine rg zs [2,3] ?_;refine Za fun K1 hK1=> ?_;refine rk zs [2,3,30] fun K V=> ?_;refine cg func54 (fun _=>(Yk q.to q.frm _ _)) ?_;refine kas ?_;refine Zb ?_ ?_<;>intro hb
 ·have h1:Ja q=true:=by unfold Ja;simp only[Int.natCast_pos]at hb;grind
  have hf:Yy fs.length q=false:=by unfold Yy;rw[h1];rfl
  refine kag ?_;exact⟨_,rfl,fun k hk=>oh,XW hf.symm⟩
 have h1:Ja q=false:=by unfold Ja;simp only[Int.natCast_pos]at hb;grind
 refine kay ?_;refine Za fun K2 hK2=> ?_;refine rg zs [2,3,32,33,34] ?_;refine kbM ?_;refine Zk (fun T' H' n'=>∃i:Nat,i≤q.fams.length∧(∀j,j<i→fbad fs.length q.fams j=false)∧T'=tl [(2,.loc n 0 0 0 []),(3,.loc (n+1) 0 0 0 []),(32,Zx q.fams),(33,.int .i64 q.fams.length),(34,.int .i64 i)]∧H'=(H.put n (some (.arr 0 1 [Zh fs]))).put (n+1) (some (.arr 0 10 [Ze q]))∧n'=n+2) (fun T' _ _=>q.fams.length-iv (T' 34)) ?_ ?_
 ·exact⟨0,Nat.zero_le _,fun j hj=>absurd hj (Nat.not_lt_zero _),by simp[Zx],by simp[Zh,Ze,Zx,bys],rfl⟩
 rintro T1 H1 n1 ⟨i,hi,hno,rfl,rfl,rfl⟩;refine rg zs [2,3,32,33,34,35] ?_;refine Za fun K3 hK3=> ?_;refine Zb ?_ ?_<;>intro hb
 ·have hlt:i<q.fams.length:=ott;have hnth:nth (q.fams.map fun n=>AV.int .i64 n) i=AV.int .i64 (q.fams.getD i 0):=Zr (fun n=>AV.int .i64 n) q.fams _ hlt;have hnth2:nth (q.fams.map fun n=>AV.int .i64 n) ((i:Int)-1).toNat=AV.int .i64 (q.fams.getD (i-1) 0):=by rw[show((i:Int)-1).toNat=i-1 by omega];exact Zr (fun n=>AV.int .i64 n) q.fams _ om
  have hx:IntKind.i64.wrap ((i:Int)+1)=((i+1:Nat):Int):=w1 om;have hx2:IntKind.i64.wrap ((i:Int)-1)=(i:Int)-1:=w64 om om;refine kba ?_;refine bk fun K4 hK4=> ?_;refine Zg zs [2,3,5,6,32,33,34] fun K V=> ?_
  try simp only[go_sem,seval,hsz,hszs,Zh,Ze,Zx,bys,qb,f1,f2,hnth,qd]
  repeat (first | (refine And.intro ?_ ?_;· first | exact⟨om,om⟩) | refine peel ?_)
  refine kas ?_;refine Zg zs [2,3,32,33,34,61] fun K V=> ?_
  try simp only[go_sem,seval,hsz,hszs,Zh,Ze,Zx,bys,qb,f1,f2,hnth2,hx2]
  repeat (first | (refine And.intro ?_ ?_;· first | (intro hx9;rcases Nat.eq_zero_or_pos i with q9 | q9;(rw[show decide ((0:Int)<(i:Int))=false from decide_eq_false om]at hx9;simp at hx9);first | exact⟨om,om⟩ | omega) | (intros;simp_all;done)) | refine peel ?_)
  refine kas ?_;refine Zb ?_ ?_<;>intro hb
  ·have hf1:fbad fs.length q.fams i=true:=by unfold fbad;simp only[Int.natCast_pos]at hb;grind
   have hf:Yy fs.length q=false:=by
     exact kbE
   refine kag ?_;exact⟨_,rfl,fun k hk=>oh,XW hf.symm⟩
  have hf1:fbad fs.length q.fams i=false:=by unfold fbad;simp only[Int.natCast_pos]at hb;grind
  refine kb3 ?_;refine ZP zs [2,3,32,33,34] fun K V=> ?_
  try simp only[go_sem,seval,hsz,hszs,Zh,Ze,Zx,bys,qb,f1,f2,hx]
  refine kad ?_;exact kbH
 have hge:i=q.fams.length:=otf;refine ax ?_;apply hK2;refine kag ?_
 first
 | (refine ⟨_, rfl, fun k hk => oh, XW ?_⟩
    have hfu:Qn fs.length q.fams=true:=by unfold Qn;rw[List.all_eq_true];intro j hj;rw[hno j (by have:=List.mem_range.1 hj;omega)];rfl
    unfold Yy Uo;rw[h1,hfu];have e1:decide ((q.pre.length:Int)≤256)=decide (q.pre.length≤256):=decide_eq_decide.2 om;rw[e1];simp only[Bool.cond_false_right,Bool.not_false,Bool.true_and])
theorem kl_roAV(fs:List Fml)(t:List UInt8)(s:Ro)(n:Nat):(s.av fs t).kl n:=⟨trivial,kl_schQ fs n,⟨trivial,trivial,trivial,trivial,trivial⟩,trivial,trivial,trivial,trivial⟩
theorem Ro.fin{P : Program}{f : FuncId}{args : List AV}{fs : List Fml}{t : List UInt8}{kr : Nat}{H : Heap}{n : Nat}{v : AV}{s : Ro}(hk : kr < n)
   (h:Zn P f args H n fun res H1 _=>∃v1,res= .val v1∧Frz H1 n v1 v∧H1 kr=some (s.obj fs t)∧∀k,k<n→k≠kr→H1 k=H k):Ret P f args H n v (H.put kr (some (s.obj fs t))) n:=
 Si (h.mono fun res H1 n' ⟨v1,h1,h2,h3,h4⟩=> .inl ⟨v1,v,H.put kr (some (s.obj fs t)),h1,fun k hk3=>by
   by_cases e:k=kr
   ·subst e;exact .inr ⟨0,9,[s.av fs t],[s.av fs t],h3,Rm _ _ _,.cons (.kl (kl_roAV fs t s n)) .nil⟩
   ·rw[LowO,Rk _ _ e,h4 k hk3 e];exact .inl ⟨rfl,.inl rfl⟩,fun k hk3=>Rk _ _ om,h2,rfl,rfl,rfl⟩)
section
variable (fs:List Fml)(t:List UInt8)(s:Ro)(kr:Nat)
theorem NHa0.eqs{P Q:Prop}(g:Imp P Q:=by(try simp only[go_sem,seval,hR1,hszs]);exact Imp.rf):Imp P Q:=g
open NHa0 NY in
theorem Qu(a:Int)(H:Heap)(n:Nat)(hk:kr<n)(hR:H kr=some (s.obj fs t)):Ret prog 137 [.loc kr 0 0 0 [],.int .i64 a] H n (.tup []) (H.put kr (some ((YL s a).obj fs t))) n:=by
 have hR1:=hR;unfold Ro.obj Ro.av roAV rwAV at hR1;have hszs:(Zh fs).sz=1:=rfl;refine Ro.fin hk ?_;refine fw func137 ntmps137 results137 ?_;refine rg zs [0,1,8] ?_;refine Zb ?_ ?_<;>intro hb
 ·have hd:YL s a={s with bad:=a}:=if_pos (of_decide_eq_true hb);refine rg1 zs [] ?_;exact⟨_,rfl,.tup .nil,by rw[hd];rfl,fun k hk1 hk2=>onn⟩
 have hd:YL s a=s:=if_neg (of_decide_eq_false hb);refine ak ?_;exact⟨_,rfl,.tup .nil,by rw[hd];rfl⟩
open NHa0 NY in
theorem XY(H:Heap)(n:Nat)(hk:kr<n)(hR:H kr=some (s.obj fs t)):Ret prog 108 [.loc kr 0 0 0 []] H n (.tup []) (H.put kr (some ((Y2 t s).obj fs t))) n:=by
 have hR1:=hR;unfold Ro.obj Ro.av roAV rwAV at hR1;have hszs:(Zh fs).sz=1:=rfl;refine Ro.fin hk ?_;refine fw func108 ntmps108 results108 ?_;refine Za fun K1 hK1=> ?_;refine rg zs [0,7] ?_;refine Zb ?_ ?_<;>intro hb
 ·have hd:Y2 t s=YL s t.length:=by unfold Y2;rw[if_pos (by have h9:=hb;simp at h9;omega)]
  refine rc zs [] func137 ((Qu fs t s kr _ _ _ hk hR)) ?_;refine ar ?_;exact⟨_,rfl,.tup .nil,by rw[hd]<;>rfl,fun k hk1 hk2=>onn⟩
 have hd:Y2 t s=YL s s.w.pos:=by unfold Y2;rw[if_neg (by have h9:=hb;simp at h9;omega)]
 refine kay ?_;refine rc1 zs [] func137 ((Qu fs t s kr _ _ _ hk hR)) ?_;exact⟨_,rfl,.tup .nil,by rw[hd]<;>rfl,fun k hk1 hk2=>onn⟩
theorem NHa1.eqs{P Q:Prop}(g:Imp P Q:=by(try simp only[go_sem,seval,hR1,hszs,hszw,g1,g2,rwAV]);exact Imp.rf):Imp P Q:=g
theorem NHa1.sd{P:Prop}(g:P:=by first | exact fun d hd=>by cases hd;exact callQ_mkQ func136 rfl rfl rfl (fun n=>hX▸Ld t s.p ht hs _ n) | fail):P:=g
set_option maxHeartbeats 1600000 in
open NHa1 NZ in
theorem WA(ht:t.length≤512)(hs:s.p≤t.length)(H:Heap)(n:Nat)(hk:kr<n)(hR:H kr=some (s.obj fs t)):Ret prog 106 [.loc kr 0 0 0 []] H n (.tup []) (H.put kr (some ((Zl t s).obj fs t))) n:=by
 have hR1:=hR;unfold Ro.obj Ro.av roAV rwAV at hR1;have hszs:(Zh fs).sz=1:=rfl;have hszw:∀w,(rwAV w).sz=4:=fun _=>rfl;have g1:(kr=n)=False:=oz;have g2:(n=kr)=False:=oz;obtain⟨X,hX⟩:∃X,X=XA t s.p:=⟨_,rfl⟩;have hnx:Zl t s=if X.2.2 then{s with w:=X.1,p:=X.2.1}else YL {s with w:=X.1,p:=X.2.1} X.1.pos:=by rw[hX];rfl
 refine Ro.fin hk ?_;refine fw func106 ntmps106 results106 ?_;refine dx zs [0,2,3,4] [.m,.q,.q,.q,.m,.q,.q,.q,.c,.m,.q,.q,.q,.w [1,2,3,5,6,7,8,10,11,12],.w [11,12],.q,.q] [0,1,2,3,4,5,6,7,8,9,10,11,12,13,14,15,16] [0,1,2,3,4,5,6,7,8,9,10,11,12,13,14,15,16] fun K V=> ?_;refine cq func136 (fun _ n=>(hX▸Ld t s.p ht hs _ _)) ?_;refine kas ?_;refine rg zs [0,2,3,4] ?_;refine rg zs [0,2,4] ?_;refine rg zs [0,2,27] ?_;refine Zb ?_ ?_<;>intro hb
 ·have hw:X.2.2=false:=osb;rw[hw]at hnx;simp only[Bool.false_eq_true,if_false]at hnx;refine rk1 zs [] fun K V=> ?_;refine ck func137 ((Qu fs t {s with w:=X.1,p:=X.2.1} kr _ _ _ om (Rm _ _ _))) ?_;refine kas ?_;refine ns ?_;exact⟨_,rfl,.tup .nil,by rw[hnx]<;>rfl,fun k hk1 hk2=>onn⟩
 have hw:X.2.2=true:=osb;rw[hw]at hnx;simp only[if_true]at hnx;refine ak ?_;exact⟨_,rfl,.tup .nil,by rw[hnx]<;>rfl,fun k hk1 hk2=>onn⟩
open NHa0 NY in
theorem V7(ht:t.length≤512)(hs:s.p≤t.length)(k:Nat)(w:List UInt8)(H:Heap)(n:Nat)(hk:kr<n)(hR:H kr=some (s.obj fs t)):Ret prog 138 [.loc kr 0 0 0 [],.int .u8 k,.str w] H n (.bool (isB k w s)) (H.put kr (some ((isS t k w s).obj fs t))) n:=by
 have hR1:=hR;unfold Ro.obj Ro.av roAV rwAV at hR1;have hszs:(Zh fs).sz=1:=rfl;have hB:isB k w s= !(bif (bif decide (0≤s.bad)then true else((s.w.kind:Int) !=(k:Int)))then true else !(s.w.text==w)):=by
   unfold isB;have e:((s.w.kind:Int) !=(k:Int))= !(s.w.kind==k):=by rw[Bool.eq_iff_iff];simp;omega
   rw[e];by_cases h:s.bad<0
   ·rw[decide_eq_true h,decide_eq_false om];cases (s.w.kind==k)<;>simp[bne]
   ·rw[decide_eq_false h,decide_eq_true om];rfl
 refine Ro.fin hk ?_;refine fw func138 ntmps138 results138 ?_;refine rg zs [0,1,2] ?_;refine Za fun K1 hK1=> ?_;refine rg zs [0,29] ?_;refine Zb ?_ ?_<;>intro hb
 ·have hf:isB k w s=false:=by rw[hB,hb];rfl
  have hs2:isS t k w s=s:=by unfold isS;rw[hf];rfl
  refine rg zs [6] ?_;refine ar ?_;exact⟨_,rfl,XW hf.symm,by rw[hs2]<;>rfl⟩
 have hf:isB k w s=true:=by rw[hB,hb];rfl
 have hs2:isS t k w s=Zl t s:=by unfold isS;rw[hf];rfl
 refine kay ?_;refine rc zs [] func106 ((WA fs t s kr ht hs _ _ hk hR)) ?_;refine rg zs [6] ?_;refine ar ?_;exact⟨_,rfl,XW hf.symm,by rw[hs2]<;>rfl,fun k hk1 hk2=>onn⟩
end
theorem Ml(w:List UInt8)(H:Heap)(n:Nat):Ret prog 167 [.str w] H n (.int .u8 ((agK w:Nat):Int)) H n:=by
 have h:=M5 w H n;unfold agK;by_cases h1:w=wFam
 ·rw[if_pos h1]at h ⊢;exact h
 ·by_cases h2:w=wTs
  ·rw[if_neg h1,if_pos h2]at h ⊢;exact h
  ·rw[if_neg h1,if_neg h2]at h ⊢;exact h
theorem VX{H:Heap}{n:Nat}(k s t:List UInt8)(m:Int):Frz H n (.agg [.str k,.nilsl,.str s,.str t,.int .i64 m]) (CR.nd k [] s t m).av:=
 .agg (.cons (.kl trivial) (.cons .nilsl (.cons (.kl trivial) (.cons (.kl trivial) (.cons (.kl trivial) .nil)))))
theorem NHb0.eqs{P Q:Prop}(g:Imp P Q:=by(try simp only[go_sem,seval,hR1,hszs,hags,hmos,hss,g1,g2,g3,g4,g5,g6,rwAV,Ro.obj,Ro.av,roAV]);exact Imp.rf):Imp P Q:=g
set_option maxHeartbeats 3200000 in
open NHb0 NY in
theorem c_ref13_test(fs : List Fml)(hfs : fs.length ≤ 1048576)(t : List UInt8)(s : Ro)(kr : Nat)(ht : t.length ≤ 512)(hs : s.p ≤ t.length)(H : Heap)(n : Nat)(hk : kr < n)(hR : H kr = some (s.obj fs t)):
   Ret prog 157 [.loc kr 0 0 0 []] H n (WH fs t s).1.av (H.put kr (some ((WH fs t s).2.obj fs t))) n:=by
 have hR1:=hR;unfold Ro.obj Ro.av roAV rwAV at hR1;have hszs:(Zh fs).sz=1:=rfl;have hags:(Zh fs).isAgg=true:=rfl;have hmos:(Zh fs).memOK=true:=rfl;have hss:∀g,strip g (Zh fs)=Zh fs:=fun g=>by cases g<;>rfl
 have g1:(kr=n)=False:=oz;have g2:(kr=n+1)=False:=oz;have g3:(n=kr)=False:=oz;have g4:(n+1=kr)=False:=oz;have g5:(n=n+1)=False:=osi;have g6:(n+1=n)=False:=osi;obtain⟨r,hr⟩:∃r,r=WH fs t s:=⟨_,rfl⟩;rw[←hr];unfold WH at hr;have p1:=Qk (s:=s) ht hs;have p2:=Qk (s:=Zl t s) ht p1;obtain⟨s1,hs1⟩:∃x,x=Zl t s:=⟨_,rfl⟩;rw[←hs1]at hr p1 p2;obtain⟨s2,hs2⟩:∃x,x=Zl t s1:=⟨_,rfl⟩;rw[←hs2]at hr p2;have c1:=fun H n hk hR=>hs1▸WA fs t s kr ht hs H n hk hR;have c2:=fun H n hk hR=>hs2▸WA fs t s1 kr ht p1 H n hk hR;clear hs1 hs2;have hbb:∀b:Int,(decide ((0:Int)≤b)=true↔0≤b):=fun b=>osi;have hk1:(bif ((s.w.kind:Int) !=110)then true else bif (bif (bif !(s.w.text==wFam)then !(s.w.text==Y1)else false)then !(s.w.text==YG)else false)then !(s.w.text==wTs)else false)=decide (s.w.kind≠110∨s.w.text∉[wFam,Y1,YG,wTs]):=by
   have e:((s.w.kind:Int) !=110)=(s.w.kind !=110):=by rw[Bool.eq_iff_iff];simp;omega
   rw[e];by_cases a1:s.w.kind=110<;>by_cases a2:s.w.text=wFam<;>by_cases a3:s.w.text=Y1<;>by_cases a4:s.w.text=YG<;>by_cases a5:s.w.text=wTs<;>simp_all
 have hk2:(bif ((s1.w.kind:Int) !=103)then true else !(decide (s1.w.text∈(if s.w.text=wFam then sEq else if s.w.text=wTs then sCmp else sAll))))=decide (s1.w.kind≠103∨s1.w.text∉mayS s.w.text):=by
   have e:((s1.w.kind:Int) !=103)=(s1.w.kind !=103):=by rw[Bool.eq_iff_iff];simp;omega
   rw[e];unfold mayS;by_cases a1:s1.w.kind=103<;>simp[a1]
 have hk3:(bif ((s2.w.kind:Int) !=((agK s.w.text:Nat):Int))then true else bif s.w.text==wFam then decide (Xv fs s2.w.text 0<0)else false)=decide (s2.w.kind≠agK s.w.text∨(s.w.text=wFam∧famF fs s2.w.text<0)):=by
   have e:((s2.w.kind:Int) !=((agK s.w.text:Nat):Int))=(s2.w.kind !=agK s.w.text):=by rw[Bool.eq_iff_iff];simp;omega
   rw[e];unfold famF;generalize agK s.w.text=K;by_cases a1:s2.w.kind=K<;>by_cases a2:s.w.text=wFam<;>simp[a1,a2]
 refine Ro.fin hk ?_;refine fw func157 ntmps157 results157 ?_;refine rg zs [0,2] ?_;refine rg zs [0,2,3] ?_;refine Za fun K1 hK1=> ?_;refine rg zs [0,2,3,14] ?_;refine Zb ?_ ?_<;>intro hb
 ·rw[if_pos (of_decide_eq_true hb)]at hr;refine rg zs [2] ?_;refine ar ?_;rw[hr];exact⟨_,rfl,VX _ _ _ _,rfl,fun k hk1 hk2=>onn⟩
 rw[if_neg (of_decide_eq_false hb)]at hr;refine ak ?_;apply hK1;refine Za fun K2 hK2=> ?_;refine rg zs [0,2,3,41] ?_;refine Zb ?_ ?_<;>intro hb
 ·have hb2:=of_decide_eq_true (hk1.symm.trans hb);rw[if_pos hb2]at hr;refine rk zs [2,3] fun K V=> ?_;refine ck func108 ((XY fs t s kr _ _ om (ohx hR))) ?_;apply V;clear V K;refine rg zs [2] ?_;refine ar ?_;rw[hr];exact⟨_,rfl,VX _ _ _ _,rfl,fun k hk1 hk2=>onn⟩
 have hb2:=of_decide_eq_false (hk1.symm.trans hb);rw[if_neg hb2]at hr;refine ak ?_;apply hK2;refine rk zs [0,2,3] fun K V=> ?_;refine ck func106 ((c1 _ _ om (ohx hR))) ?_;apply V;clear V K;refine Za fun K3 hK3=> ?_;refine rg zs [0,2,3,51] ?_;refine Zb ?_ ?_<;>intro hb
 ·rw[if_pos (of_decide_eq_true hb)]at hr;refine rg zs [2] ?_;refine ar ?_;rw[hr];exact⟨_,rfl,VX _ _ _ _,rfl,fun k hk1 hk2=>onn⟩
 rw[if_neg (of_decide_eq_false hb)]at hr;refine ak ?_;apply hK3;refine rg zs [0,2,3] ?_;refine Za fun K4 hK4=> ?_;refine rk zs [0,2,3,72] fun K V=> ?_;refine cg func166 (fun _=>(c_ref13_may s.w.text s1.w.text _ _)) ?_;apply V;clear V K;refine Zb ?_ ?_<;>intro hb
 ·have hb3:=of_decide_eq_true (hk2.symm.trans hb);rw[if_pos hb3]at hr;refine rk zs [2,3] fun K V=> ?_;refine ck func108 ((XY fs t s1 kr _ _ om ohr)) ?_;apply V;clear V K;refine rg zs [2] ?_;refine ar ?_;rw[hr];exact⟨_,rfl,VX _ _ _ _,rfl,fun k hk1 hk2=>onn⟩
 have hb3:=of_decide_eq_false (hk2.symm.trans hb);rw[if_neg hb3]at hr;refine ak ?_;apply hK4;refine rk zs [0,2,3] fun K V=> ?_;refine ck func106 ((c2 _ _ om ohr)) ?_;apply V;clear V K;refine Za fun K5 hK5=> ?_;refine rg zs [0,2,3,82] ?_;refine Zb ?_ ?_<;>intro hb
 ·rw[if_pos (of_decide_eq_true hb)]at hr;refine rg zs [2] ?_;refine ar ?_;rw[hr];exact⟨_,rfl,VX _ _ _ _,rfl,fun k hk1 hk2=>onn⟩
 rw[if_neg (of_decide_eq_false hb)]at hr;refine ak ?_;apply hK5;refine rg zs [0,2,3] ?_;refine rg zs [0,2,3] ?_;refine Za fun K6 hK6=> ?_;refine dx zs [0,2,3,119] [.m,.q,.q,.q,.q,.q,.q,.c,.q,.m,.q,.q,.q,.m,.m,.q,.q,.q,.q,.q,.c,.q,.q,.q] [0,1,2,3,4,5,6,7,8,9,10,11,12,13,14,15,16,17,18,19,20,21,22,23] [0,1,2,3,4,5,6,7,8,9,10,11,12,13,14,15,16,17,18,19,20,21,22,23] fun K V=> ?_;refine cq func167 (fun _ n=>(Ml s.w.text _ _)) ?_;refine cq func168 (fun _ n=>(by apply PX<;>first | assumption | omega)) ?_;apply V;clear V K;refine Zb ?_ ?_<;>intro hb
 ·have hb4:=of_decide_eq_true (hk3.symm.trans hb);rw[if_pos hb4]at hr;refine rk zs [2,3] fun K V=> ?_;refine ck func108 ((XY fs t s2 kr _ _ om ohr)) ?_;apply V;clear V K;refine rg zs [2] ?_;refine ar ?_;rw[hr];exact⟨_,rfl,VX _ _ _ _,rfl,fun k hk1 hk2=>onn⟩
 have hb4:=of_decide_eq_false (hk3.symm.trans hb);rw[if_neg hb4]at hr;refine ak ?_;apply hK6;refine rk zs [2,3] fun K V=> ?_;refine ck func106 ((WA fs t s2 kr ht p2 _ _ om ohr)) ?_;apply V;clear V K;refine rg zs [2] ?_;refine ar ?_;rw[hr];exact⟨_,rfl,VX _ _ _ _,rfl,fun k hk1 hk2=>onn⟩
def FactC(fs:List Fml)(t:List UInt8)(kr f:Nat):Prop:=∀(s:Ro) (H:Heap) (n:Nat),RI t s→4*s.m t+1≤f→kr<n→H kr=some (s.obj fs t)→Ret prog 151 [.loc kr 0 0 0 []] H n (ZV fs t f s).1.av (H.put kr (some ((ZV fs t f s).2.obj fs t))) n
def TermC(fs:List Fml)(t:List UInt8)(kr f:Nat):Prop:=∀(s:Ro) (H:Heap) (n:Nat),RI t s→4*s.m t+2≤f→kr<n→H kr=some (s.obj fs t)→Ret prog 139 [.loc kr 0 0 0 []] H n (Ym fs t f s).1.av (H.put kr (some ((Ym fs t f s).2.obj fs t))) n
def CondC(fs:List Fml)(t:List UInt8)(kr f:Nat):Prop:=∀(s:Ro) (H:Heap) (n:Nat),RI t s→4*s.m t+3≤f→kr<n→H kr=some (s.obj fs t)→Ret prog 107 [.loc kr 0 0 0 []] H n (Yh fs t f s).1.av (H.put kr (some ((Yh fs t f s).2.obj fs t))) n
theorem YZ(c:CR):c.av.sz=5:=by cases c;rfl
theorem YS(c:CR):c.av.isAgg=true:=by cases c;rfl
theorem Yz(c:CR):c.av.memOK=true:=by cases c;rfl
theorem Yf(g:Bool)(c:CR):strip g c.av=c.av:=by cases c;cases g<;>rfl
mutual
theorem Ng(n:Nat):∀c:CR,c.av.kl n
 | .nd k l s t m=>⟨trivial,Pk n l,trivial,trivial,trivial,trivial⟩
theorem Pk(n:Nat):∀l:List CR,Rv n (RA l)
 | []=>trivial
 | c::l=>⟨Ng n c,Pk n l⟩
end
theorem avs_snoc(l:List CR)(c:CR):RA (l++[c])=RA l++[c.av]:=by rw[Rw,Rw,qj];rfl
theorem avs_len(l:List CR):(RA l).length=l.length:=by rw[Rw,qb]
theorem avs_take(l:List CR):(RA l).take l.length=RA l:=List.take_of_length_le (by rw[avs_len];omega)
theorem frzL_kls{H:Heap}{n:Nat}:∀l:List AV,Rv n l→FrzL H n l l
 | [],_=> .nil
 | _::l,h=> .cons (.kl h.1) (frzL_kls l h.2)
theorem frz_ndl{H:Heap}{n k ver e:Nat}{l:List CR}(w s t:List UInt8)(m:Int)(hk:H k=some (.arr ver e (RA l)))(hn:n≤k)(he:e=5):Frz H n (.agg [.str w,.osl k ver 0 l.length,.str s,.str t,.int .i64 m]) (CR.nd w l s t m).av:=by
 subst he;refine .agg (.cons (.kl trivial) (.cons ?_ (.cons (.kl trivial) (.cons (.kl trivial) (.cons (.kl trivial) .nil)))));refine .osl hk hn (by rw[avs_len];omega) ?_;rw[List.drop_zero,avs_take];exact frzL_kls _ (Pk n l)
theorem NHc0.eqs{P Q:Prop}(g:Imp P Q:=by(try simp only[go_sem,seval,hszs,hags,hmos,hss,g1,g2,g3,g4,g5,g6,f1,f2,f3,f4,f5,f6,hA,hB,hC,hR1,q1,q2,q3,q4,q5,q6,q7,hall,rwAV,Ro.obj,Ro.av,roAV,YZ,YS,Yz,Yf,avs_len,avs_take]);exact Imp.rf):Imp P Q:=g
theorem NHc0.sd{P:Prop}(g:P:=by first | exact⟨rfl,by(simp[YZ,Yz];first | done | fail)⟩ | exact⟨om,.inr trivial,om,om⟩ | fail):P:=g
set_option maxHeartbeats 3200000 in
open NHc0 NZ in
theorem c_ref13_term{fs:List Fml}{t:List UInt8}(ht:t.length≤512){kr:Nat}:∀{f:Nat},(∀g,g<f→FactC fs t kr g)→TermC fs t kr f:=fun{f} hF s H n hI hm hk hR=>by
 obtain⟨f,rfl⟩:∃q,f=q+1:=⟨f-1,om⟩;have hszs:(Zh fs).sz=1:=rfl;have hags:(Zh fs).isAgg=true:=rfl;have hmos:(Zh fs).memOK=true:=rfl;have hss:∀g,strip g (Zh fs)=Zh fs:=fun g=>by cases g<;>rfl
 have g1:(kr=n)=False:=oz;have g2:(kr=n+1)=False:=oz;have g3:(kr=n+2)=False:=oz;have g4:(n=kr)=False:=oz;have g5:(n+1=kr)=False:=oz;have g6:(n+2=kr)=False:=oz;have f1:(n=n+1)=False:=osi;have f2:(n+1=n)=False:=osi;have f3:(n+2=n)=False:=osi;have f4:(n+2=n+1)=False:=osi;have f5:(n+1=n+2)=False:=osi;have f6:(n=n+2)=False:=osi;have hA:=hk;have hB:=hk;have hC:=hk;have hR1:=hk;have q1:=hk;have q2:=hk;have q3:=hk;have q4:=hk;have q5:=hk;have q6:=hk;have q7:=hk;have hall:=hk;have hms:s.m t≤513:=by unfold Ro.m;split;(split<;>omega);omega
 obtain⟨r,hr⟩:∃r,r=YN fs t (f+1) [] s:=⟨_,rfl⟩;have hv:Ym fs t (f+1) s=(.nd wAnd r.1 [] [] 0,r.2):=by rw[hr];unfold Ym;rfl
 rw[hv];refine Ro.fin hk ?_;refine fw func139 ntmps139 results139 ?_;refine rg zs [0,2] ?_;refine rg zs [0,2,3] ?_;refine Za fun K1 hK1=> ?_;refine rg zs [0,2,3,4] ?_;refine kbM ?_;refine ZO (n+1) 5 (ver:=0) (e:=5) (els:=[.agg [.str wAnd,.nilsl,.str [],.str [],.int .i64 0]]) (els':=[.agg [.str wAnd,.osl (n+2) 0 0 0,.str [],.str [],.int .i64 0]]) (by simp[Heap.put,wAnd]) ⟨Adp.agg ⟨.refl _ _,Adp.nilsl _,.refl _ _,.refl _ _,.refl _ _,trivial⟩,trivial⟩ ?_;refine Zk (fun T' H' n'=>∃(g:Nat) (l:List CR) (s1:Ro) (ver j:Nat) (more:Bool),(if more then YN fs t g l s1=r∧4*s1.m t+2+0≤g∧g≤f+1∧RI t s1∧j+s1.m t≤s.m t else(l,s1)=r)∧s1.p≤t.length∧j≤s.m t+1∧l.length=j∧T'=tl [(0,.loc kr 0 0 0 []),(2,.loc n 0 0 0 []),(3,.loc (n+1) 0 0 0 []),(4,.bool more)]∧H' (n+1)=some (.arr 0 5 [.agg [.str wAnd,.osl (n+2) ver 0 l.length,.str [],.str [],.int .i64 0]])∧H' (n+2)=some (.arr ver 5 (RA l))∧H' n=some (.arr 0 5 [.agg [.str [],.nilsl,.str [],.str [],.int .i64 0]])∧H' kr=some (s1.obj fs t)∧(∀k,k<n→k≠kr→H' k=H k)∧n'=n+3+j) (fun _ _ n'=>s.m t+5+n-n') ?_ ?_
 ·exact⟨f+1,[],s,0,0,true,by rw[if_pos rfl];exact⟨hr.symm,om,Nat.le_refl _,hI,om⟩,hI.p,om,rfl,rfl,by simp[Heap.put,wAnd],by simp[Heap.put,RA],by simp[Heap.put],ohx hR,fun k h1 h2=>oh,om⟩
 rintro T1 H1 n1 ⟨g,l,s1,ver,j,more,hinv,hp1,hj,hlj,rfl,hA,hB,hC,hR2,hlow,rfl⟩;have hR1:=hR2;unfold Ro.obj Ro.av roAV rwAV at hR1;refine Za fun K2 hK2=> ?_;refine rg zs [0,2,3,14] ?_;refine Zb ?_ ?_<;>intro hb
 ·have hmm:=Vw hb;obtain rfl:more=true:=hmm.1;have hbad:s1.bad<0:=of_decide_eq_true hmm.2;rw[if_pos rfl]at hinv;obtain⟨hrr,hg1,hg2,hRI,hjm⟩:=hinv;obtain⟨g,rfl⟩:∃q,g=q+1:=⟨g-1,om⟩;rw[YN,if_pos hbad]at hrr;have hgo:=(VZ (fs:=fs) ht g).2.2.2.2 s1 hp1;have hRI2:=hgo.ri hRI hbad;obtain⟨y,hy⟩:∃y,y=ZV fs t g s1:=⟨_,rfl⟩;have cF:=fun H n a b=>hy▸hF g om s1 H n hRI om a b;rw[←hy]at hrr hgo hRI2;clear hy;have q1:(kr=n+3+j)=False:=oz;have q2:(n+1=n+3+j)=False:=oz;have q3:(n+2=n+3+j)=False:=oz;have q4:(n=n+3+j)=False:=oz;have q5:(n+3+j=kr)=False:=oz;have q6:(n+3+j=n+1)=False:=oz;have q7:(n+3+j=n+2)=False:=oz;have hks:∀{H9:Heap} {X:Option AObj} {n9:Nat},n+3+j<n9→True:=fun _=>trivial;refine kaQ ?_;refine bk fun K3 hK3=> ?_;refine rk zs [0,2,3,5] fun K V=> ?_;refine ck func151 ((cF _ _ om hR2)) ?_;refine kas ?_;refine rg1 zs [0,2,3] ?_;apply hK3;refine rk1 zs [0,2,3,4] fun K V=> ?_;refine ck func138 ((V7 fs t y.2 kr ht hgo.p 110 wAnd _ _ om ohr)) ?_;refine kas ?_;refine ns ?_;refine⟨⟨g,l++[y.1],isS t 110 wAnd y.2,ver+1,j+1,isB 110 wAnd y.2,?_,(L6 ht hgo.p odc).p,om,oz,rfl,?_⟩,om⟩
  ·by_cases hi:isB 110 wAnd y.2=true
   ·exact kbD
   ·rw[if_neg hi]at hrr ⊢;rw[show isS t 110 wAnd y.2=y.2 by unfold isS;rw[if_neg hi]];exact hrr
  ·exact kcf
 have hrr:(l,s1)=r:=by
   cases more with
   | false=>exact hinv
   | true=>rw[if_pos rfl]at hinv;rw[←hinv.1,Ms _ _ otf]
 refine ax ?_;apply hK1;refine kal ?_;exact kbW
set_option maxHeartbeats 3200000 in
open NHc0 NZ in
theorem c_ref13_cond{fs:List Fml}{t:List UInt8}(ht:t.length≤512){kr:Nat}:∀{f:Nat},(∀g,g<f→TermC fs t kr g)→CondC fs t kr f:=fun{f} hF s H n hI hm hk hR=>by
 obtain⟨f,rfl⟩:∃q,f=q+1:=⟨f-1,om⟩;have hszs:(Zh fs).sz=1:=rfl;have hags:(Zh fs).isAgg=true:=rfl;have hmos:(Zh fs).memOK=true:=rfl;have hss:∀g,strip g (Zh fs)=Zh fs:=fun g=>by cases g<;>rfl
 have g1:(kr=n)=False:=oz;have g2:(kr=n+1)=False:=oz;have g3:(kr=n+2)=False:=oz;have g4:(n=kr)=False:=oz;have g5:(n+1=kr)=False:=oz;have g6:(n+2=kr)=False:=oz;have f1:(n=n+1)=False:=osi;have f2:(n+1=n)=False:=osi;have f3:(n+2=n)=False:=osi;have f4:(n+2=n+1)=False:=osi;have f5:(n+1=n+2)=False:=osi;have f6:(n=n+2)=False:=osi;have hA:=hk;have hB:=hk;have hC:=hk;have hR1:=hk;have q1:=hk;have q2:=hk;have q3:=hk;have q4:=hk;have q5:=hk;have q6:=hk;have q7:=hk;have hall:=hk;have hms:s.m t≤513:=by unfold Ro.m;split;(split<;>omega);omega
 obtain⟨r,hr⟩:∃r,r=orsR fs t (f+1) [] s:=⟨_,rfl⟩;have hv:Yh fs t (f+1) s=(.nd wOr r.1 [] [] 0,r.2):=by rw[hr];unfold Yh;rfl
 rw[hv];refine Ro.fin hk ?_;refine fw func107 ntmps107 results107 ?_;refine rg zs [0,2] ?_;refine rg zs [0,2,3] ?_;refine Za fun K1 hK1=> ?_;refine rg zs [0,2,3,4] ?_;refine kbM ?_;refine ZO (n+1) 5 (ver:=0) (e:=5) (els:=[.agg [.str wOr,.nilsl,.str [],.str [],.int .i64 0]]) (els':=[.agg [.str wOr,.osl (n+2) 0 0 0,.str [],.str [],.int .i64 0]]) (by simp[Heap.put,wOr]) ⟨Adp.agg ⟨.refl _ _,Adp.nilsl _,.refl _ _,.refl _ _,.refl _ _,trivial⟩,trivial⟩ ?_;refine Zk (fun T' H' n'=>∃(g:Nat) (l:List CR) (s1:Ro) (ver j:Nat) (more:Bool),(if more then orsR fs t g l s1=r∧4*s1.m t+2+1≤g∧g≤f+1∧RI t s1∧j+s1.m t≤s.m t else(l,s1)=r)∧s1.p≤t.length∧j≤s.m t+1∧l.length=j∧T'=tl [(0,.loc kr 0 0 0 []),(2,.loc n 0 0 0 []),(3,.loc (n+1) 0 0 0 []),(4,.bool more)]∧H' (n+1)=some (.arr 0 5 [.agg [.str wOr,.osl (n+2) ver 0 l.length,.str [],.str [],.int .i64 0]])∧H' (n+2)=some (.arr ver 5 (RA l))∧H' n=some (.arr 0 5 [.agg [.str [],.nilsl,.str [],.str [],.int .i64 0]])∧H' kr=some (s1.obj fs t)∧(∀k,k<n→k≠kr→H' k=H k)∧n'=n+3+j) (fun _ _ n'=>s.m t+5+n-n') ?_ ?_
 ·exact⟨f+1,[],s,0,0,true,by rw[if_pos rfl];exact⟨hr.symm,om,Nat.le_refl _,hI,om⟩,hI.p,om,rfl,rfl,by simp[Heap.put,wOr],by simp[Heap.put,RA],by simp[Heap.put],ohx hR,fun k h1 h2=>oh,om⟩
 rintro T1 H1 n1 ⟨g,l,s1,ver,j,more,hinv,hp1,hj,hlj,rfl,hA,hB,hC,hR2,hlow,rfl⟩;have hR1:=hR2;unfold Ro.obj Ro.av roAV rwAV at hR1;refine Za fun K2 hK2=> ?_;refine rg zs [0,2,3,14] ?_;refine Zb ?_ ?_<;>intro hb
 ·have hmm:=Vw hb;obtain rfl:more=true:=hmm.1;have hbad:s1.bad<0:=of_decide_eq_true hmm.2;rw[if_pos rfl]at hinv;obtain⟨hrr,hg1,hg2,hRI,hjm⟩:=hinv;obtain⟨g,rfl⟩:∃q,g=q+1:=⟨g-1,om⟩;rw[orsR,if_pos hbad]at hrr;have hgo:=(VZ (fs:=fs) ht g).2.2.1 s1 hp1;have hRI2:=hgo.ri hRI hbad;obtain⟨y,hy⟩:∃y,y=Ym fs t g s1:=⟨_,rfl⟩;have cF:=fun H n a b=>hy▸hF g om s1 H n hRI om a b;rw[←hy]at hrr hgo hRI2;clear hy;have q1:(kr=n+3+j)=False:=oz;have q2:(n+1=n+3+j)=False:=oz;have q3:(n+2=n+3+j)=False:=oz;have q4:(n=n+3+j)=False:=oz;have q5:(n+3+j=kr)=False:=oz;have q6:(n+3+j=n+1)=False:=oz;have q7:(n+3+j=n+2)=False:=oz;have hks:∀{H9:Heap} {X:Option AObj} {n9:Nat},n+3+j<n9→True:=fun _=>trivial;refine kaQ ?_;refine bk fun K3 hK3=> ?_;refine rk zs [0,2,3,5] fun K V=> ?_;refine ck func139 ((cF _ _ om hR2)) ?_;refine kas ?_;refine rg1 zs [0,2,3] ?_;apply hK3;refine rk1 zs [0,2,3,4] fun K V=> ?_;refine ck func138 ((V7 fs t y.2 kr ht hgo.p 110 wOr _ _ om ohr)) ?_;refine kas ?_;refine ns ?_;refine⟨⟨g,l++[y.1],isS t 110 wOr y.2,ver+1,j+1,isB 110 wOr y.2,?_,(L6 ht hgo.p odc).p,om,oz,rfl,?_⟩,om⟩
  ·by_cases hi:isB 110 wOr y.2=true
   ·exact kbD
   ·rw[if_neg hi]at hrr ⊢;rw[show isS t 110 wOr y.2=y.2 by unfold isS;rw[if_neg hi]];exact hrr
  ·exact kcf
 have hrr:(l,s1)=r:=by
   cases more with
   | false=>exact hinv
   | true=>rw[if_pos rfl]at hinv;rw[←hinv.1,KG _ _ otf]
 refine ax ?_;apply hK1;refine kal ?_;exact kbW
theorem frz_nd1{H:Heap}{n k ver:Nat}{c:CR}(w s t:List UInt8)(m:Int)(hk:H k=some (.arr ver 5 [c.av]))(hn:n≤k):Frz H n (.agg [.str w,.osl k ver 0 1,.str s,.str t,.int .i64 m]) (CR.nd w [c] s t m).av:=
 frz_ndl (l:=[c]) w s t m hk hn rfl
theorem NHd0.eqs{P Q:Prop}(g:Imp P Q:=by(try simp only[go_sem,seval,hR1,hszs,hags,hmos,hss,g1,g2,g3,g4,g5,g6,g7,g8,f1,f2,f3,f4,f5,f6,f7,f8,f9,h1,h2,h3,rwAV,Ro.obj,Ro.av,roAV,YZ,YS,Yz,Yf,hN,hG,Bool.false_eq_true,if_false,if_true]);exact Imp.rf):Imp P Q:=g
theorem NHd0.inz{P Q:Prop}(g:Imp P Q:=by refine Imp.up eqs ?_;(repeat (first | (refine Imp.nd ?_ ?_;· first | exact⟨rfl,by(simp[YZ,Yz];first | done | fail)⟩) | refine Imp.pl ?_));exact Imp.rf):Imp P Q:=g
set_option maxHeartbeats 3200000 in
open NHd0 in
theorem c_ref13_fact{fs:List Fml}(hfs:fs.length≤1048576){t:List UInt8}(ht:t.length≤512){kr:Nat}:∀{f:Nat},(∀g,g<f→FactC fs t kr g∧CondC fs t kr g)→FactC fs t kr f:=fun{f} hF s H n hI hm hk hR=>by
 obtain⟨f,rfl⟩:∃q,f=q+1:=⟨f-1,by omega⟩;have hszs:(Zh fs).sz=1:=rfl;have hags:(Zh fs).isAgg=true:=rfl;have hmos:(Zh fs).memOK=true:=rfl;have hss:∀g,strip g (Zh fs)=Zh fs:=fun g=>by cases g<;>rfl
 have g1:(kr=n)=False:=by simp;omega
 have g2:(kr=n+1)=False:=by simp;omega
 have g3:(kr=n+2)=False:=by simp;omega
 have g4:(n=kr)=False:=by simp;omega
 have g5:(n+1=kr)=False:=by simp;omega
 have g6:(n+2=kr)=False:=by simp;omega
 have g7:(n+3=kr)=False:=by simp;omega
 have g8:(kr=n+3)=False:=by simp;omega
 have f1:(n=n+1)=False:=by simp
 have f2:(n+1=n)=False:=by simp
 have f3:(n+2=n)=False:=by simp
 have f4:(n+2=n+1)=False:=by simp
 have f5:(n+1=n+2)=False:=by simp
 have f6:(n=n+2)=False:=by simp
 have f7:(n=n+3)=False:=by simp
 have f8:(n+1=n+3)=False:=by simp
 have f9:(n+2=n+3)=False:=by simp
 have h1:(n+3=n)=False:=by simp
 have h2:(n+3=n+1)=False:=by simp
 have h3:(n+3=n+2)=False:=by simp
 have hR1:=hR;unfold Ro.obj Ro.av roAV rwAV at hR1;have hp:=hI.p;have p1:=Qk (s:=s) ht hp;have ho1:=Y5 t s;have hms:s.m t≤513:=by unfold Ro.m;split;(split<;>omega);omega
 have m1:s.bad<0→s.w.kind≠101→(Zl t s).m t+1≤s.m t:=fun a b=>nextR_m ht hp a b;obtain⟨s1,hs1⟩:∃x,x=Zl t s:=⟨_,rfl⟩;obtain⟨r,hr⟩:∃r,r=ZV fs t (f+1) s:=⟨_,rfl⟩;rw[←hr];rw[ZV,←hs1]at hr;rw[←hs1]at p1 m1 ho1;have c1:=fun k w H n a b=>V7 fs t s kr ht hp k w H n a b;unfold isS at c1;rw[←hs1]at c1;clear hs1;have hN:=hk;have hG:=hk;refine Ro.fin hk ?_;refine fw func151 ntmps151 results151 ?_;refine rg zs [0,2] ?_;refine rg zs [0,2,3] ?_;refine rk zs [0,2,3,4] fun K V=> ?_;refine ck func138 ((c1 110 wNot _ _ (by omega) (by(try simp only[Rl]);(repeat rw[if_neg (by omega)]);exact hR))) ?_;apply V;clear V K;rcases(show(isB 110 wNot s=false∧isB 103 [40] s=false)∨(isB 110 wNot s=false∧isB 103 [40] s=true)∨isB 110 wNot s=true by cases isB 110 wNot s<;>cases isB 103 [40] s<;>simp)with⟨hN,hG⟩ | ⟨hN,hG⟩ | hN
 ·rw[if_neg (by rw[hN];simp),if_neg (by rw[hG];simp)]at hr;refine rk zs [0,2,3,4,5] fun K V=> ?_;refine⟨fun _=> ?_,fun hg=>absurd hg (by simp)⟩;refine Zu func138 rfl rfl rfl (c1 103 [40] _ _ (by omega) (by(try simp only[Rl]);(repeat first | rw[if_pos rfl] | rw[if_neg (by omega)]);rfl)) ?_;refine nz ?_;apply V;clear V K;refine Za fun K1 hK1=> ?_;refine rg zs [0,2,3,4,26] ?_;refine Zb ?_ ?_<;>intro hb
  ·exact absurd hb (by simp)
  refine ak ?_;apply hK1;refine rk zs [2] fun K V=> ?_;refine ck func157 ((c_ref13_test fs hfs t s kr ht hp _ _ (by omega) (by(try simp only[Rl]);(repeat first | rw[if_pos rfl] | rw[if_neg (by omega)]);rfl))) ?_;apply V;clear V K;refine ar ?_;rw[hr];exact⟨_,rfl,.kl (Ng _ _),rfl,fun k hk1 hk2=>by(repeat rw[if_neg (by omega)])⟩
 ·rw[if_neg (by rw[hN];simp),if_pos hG]at hr;obtain⟨b1,b2,_⟩:=XH hG;refine rk zs [0,2,3,4,5] fun K V=> ?_;refine⟨fun _=> ?_,fun hg=>absurd hg (by simp)⟩;refine Zu func138 rfl rfl rfl (c1 103 [40] _ _ (by omega) (by(try simp only[Rl]);(repeat first | rw[if_pos rfl] | rw[if_neg (by omega)]);rfl)) ?_;refine nz ?_;apply V;clear V K;refine Za fun K1 hK1=> ?_;refine rg zs [0,2,3,4,26] ?_;refine Zb ?_ ?_<;>intro hb
  ·have hm1:=m1 b1 (by omega);have hso:=hI.g b1;have e0:IntKind.i64.wrap ((s1.o:Int)+1)=((s1.o+1:Nat):Int):=by rw[w64 (by omega) (by omega)];omega
   refine Zg zs [0,2,3,4] fun K V=> ?_
   try simp only[go_sem,seval,hR1,hszs,hags,hmos,hss,g1,g2,g3,g4,g5,g6,g7,g8,f1,f2,f3,f4,f5,f6,f7,f8,f9,h1,h2,h3,rwAV,Ro.obj,Ro.av,roAV,YZ,YS,Yz,Yf,hN,hG,Bool.false_eq_true,if_false,if_true,e0]
   repeat refine peel ?_
   apply V;clear V K;refine Za fun K2 hK2=> ?_;refine rg zs [0,2,3,4,38] ?_;refine Zb ?_ ?_<;>intro hb
   ·have hd:16<s1.o+1:=by have:=of_decide_eq_true hb;omega
    rw[if_pos hd]at hr;refine rg zs [2] ?_;refine rg zs [2] ?_;refine ar ?_;rw[hr];exact⟨_,rfl,VX _ _ _ _,rfl,fun k hk1 hk2=>by(repeat rw[if_neg (by omega)])⟩
   have hd:¬16<s1.o+1:=by have:=of_decide_eq_false hb;omega
   rw[if_neg hd]at hr;have hI2:RI t {s1 with o:=s1.o+1}:=⟨p1,by simp only;omega,fun _=>by simp only;omega⟩;have hm2:Ro.m t {s1 with o:=s1.o+1}=s1.m t:=rfl;obtain⟨y,hy⟩:∃y,y=ZV fs t f {s1 with o:=s1.o+1}:=⟨_,rfl⟩;obtain⟨z,hz⟩:∃z,z=Yh fs t f {s1 with o:=s1.o+1}:=⟨_,rfl⟩;have hyo:=((VZ (fs:=fs) ht f).2.2.2.2 {s1 with o:=s1.o+1} p1);have hzo:=((VZ (fs:=fs) ht f).1 {s1 with o:=s1.o+1} p1);have cY:=fun H n a b=>hy▸(hF f (by omega)).1 {s1 with o:=s1.o+1} H n hI2 (by omega) a b;have cZ:=fun H n a b=>hz▸(hF f (by omega)).2 {s1 with o:=s1.o+1} H n hI2 (by omega) a b;rw[←hy]at hyo;rw[←hz]at hzo;simp only[←hy,←hz]at hr;clear hy hz;have hyo1:=hyo.o;have hyo2:=hyo.o2;have hzo1:=hzo.o;have hzo2:=hzo.o2
   simp only at hyo1 hyo2 hzo1 hzo2;have e1:IntKind.i64.wrap ((y.2.o:Int)-1)=((y.2.o-1:Nat):Int):=by rw[w64 (by omega) (by omega)];omega
   obtain⟨u,hu⟩:∃u,u=isS t 103 [41] z.2:=⟨_,rfl⟩;have cU:=fun H n a b=>hu▸V7 fs t z.2 kr ht hzo.p 103 [41] H n a b;have huo:u.o=z.2.o:=by rw[hu];unfold isS;split;exact Y5 _ _;rfl
   try simp only[←hu]at hr
   clear hu;refine ak ?_;apply hK2;refine rg zs [0,2,4,6] ?_;refine Za fun K3 hK3=> ?_;refine rg zs [0,2,6,45] ?_;refine Zb ?_ ?_<;>intro hb
   ·exact absurd hb (by simp)
   refine rg zs [0,2,6] ?_;refine rk zs [0,2,6,8] fun K V=> ?_;refine ck func107 ((cZ _ _ (by omega) (by(try simp only[Rl]);(repeat first | rw[if_pos rfl] | rw[if_neg (by omega)]);rfl))) ?_;apply V;clear V K;refine ZO (n+1) 5 (ver:=0) (e:=5) (els:=[.agg [.str wIn,.nilsl,.str [],.str [],.int .i64 0]]) (els':=[.agg [.str wIn,.osl (n+3) 0 0 0,.str [],.str [],.int .i64 0]]) (by simp[Heap.put,wIn,g5]) ⟨Adp.agg ⟨.refl _ _,Adp.nilsl _,.refl _ _,.refl _ _,.refl _ _,trivial⟩,trivial⟩ ?_;refine rg zs [0,2,6] ?_;refine rk zs [0,2,6,9] fun K V=> ?_;refine ck func138 ((cU _ _ (by omega) (by(try simp only[Rl]);(repeat first | rw[if_pos rfl] | rw[if_neg (by omega)]);rfl))) ?_;apply V;clear V K;refine rg zs [0,2,6,73] ?_;refine Zb ?_ ?_<;>intro hb
   ·have hz3:=Vw hb;rw[if_pos ⟨of_decide_eq_true hz3.1,by simpa using hz3.2⟩]at hr;have hwo:(Y2 t u).o=u.o:=(X7 _ _).2.1;have e1:IntKind.i64.wrap (((Y2 t u).o:Int)-1)=(((Y2 t u).o-1:Nat):Int):=by rw[w64 (by omega) (by omega)];omega
    refine rk1 zs [0,2,6] fun K V=> ?_;refine ck func108 ((XY fs t u kr _ _ (by omega) (by(try simp only[Rl]);(repeat first | rw[if_pos rfl] | rw[if_neg (by omega)]);rfl))) ?_;apply V;clear V K;refine ns ?_;apply hK3;refine Zg zs [2,6] fun K V=> ?_
    try simp only[go_sem,seval,hR1,hszs,hags,hmos,hss,g1,g2,g3,g4,g5,g6,g7,g8,f1,f2,f3,f4,f5,f6,f7,f8,f9,h1,h2,h3,rwAV,Ro.obj,Ro.av,roAV,YZ,YS,Yz,Yf,hN,hG,Bool.false_eq_true,if_false,if_true,e1]
    repeat refine peel ?_
    apply V;clear V K;refine rg zs [2] ?_;refine ar ?_;rw[hr];exact⟨_,rfl,frz_nd1 _ _ _ _ (by(try simp only[Rl]);(repeat first | rw[if_pos rfl] | rw[if_neg (by omega)]);rfl) (by omega),rfl,fun k hk1 hk2=>by(repeat rw[if_neg (by omega)])⟩
   rw[if_neg (by rintro⟨a1,a2⟩;rw[a2,decide_eq_true a1]at hb;cases hb)]at hr;have e1:IntKind.i64.wrap ((u.o:Int)-1)=((u.o-1:Nat):Int):=by rw[w64 (by omega) (by omega)];omega
   refine ak ?_;apply hK3;refine Zg zs [2,6] fun K V=> ?_
   try simp only[go_sem,seval,hR1,hszs,hags,hmos,hss,g1,g2,g3,g4,g5,g6,g7,g8,f1,f2,f3,f4,f5,f6,f7,f8,f9,h1,h2,h3,rwAV,Ro.obj,Ro.av,roAV,YZ,YS,Yz,Yf,hN,hG,Bool.false_eq_true,if_false,if_true,e1]
   repeat refine peel ?_
   apply V;clear V K;refine rg zs [2] ?_;refine ar ?_;rw[hr];exact⟨_,rfl,frz_nd1 _ _ _ _ (by(try simp only[Rl]);(repeat first | rw[if_pos rfl] | rw[if_neg (by omega)]);rfl) (by omega),rfl,fun k hk1 hk2=>by(repeat rw[if_neg (by omega)])⟩
  exact absurd hb (by simp)
 ·rw[if_pos hN]at hr;obtain⟨b1,b2,_⟩:=XH hN;refine rk zs [0,2,3,4,5] fun K V=> ?_;refine⟨fun hg=>absurd hg (by simp),fun _=>⟨.bool false,?_⟩⟩;refine nz ?_;apply V;clear V K;refine Za fun K1 hK1=> ?_;refine rg zs [0,2,3,4,26] ?_;refine Zb ?_ ?_<;>intro hb
  ·have hm1:=m1 b1 (by omega);have hso:=hI.g b1;have e0:IntKind.i64.wrap ((s1.o:Int)+1)=((s1.o+1:Nat):Int):=by rw[w64 (by omega) (by omega)];omega
   refine Zg zs [0,2,3,4] fun K V=> ?_
   try simp only[go_sem,seval,hR1,hszs,hags,hmos,hss,g1,g2,g3,g4,g5,g6,g7,g8,f1,f2,f3,f4,f5,f6,f7,f8,f9,h1,h2,h3,rwAV,Ro.obj,Ro.av,roAV,YZ,YS,Yz,Yf,hN,hG,Bool.false_eq_true,if_false,if_true,e0]
   repeat refine peel ?_
   apply V;clear V K;refine Za fun K2 hK2=> ?_;refine rg zs [0,2,3,4,38] ?_;refine Zb ?_ ?_<;>intro hb
   ·have hd:16<s1.o+1:=by have:=of_decide_eq_true hb;omega
    rw[if_pos hd]at hr;refine rg zs [2] ?_;refine rg zs [2] ?_;refine ar ?_;rw[hr];exact⟨_,rfl,VX _ _ _ _,rfl,fun k hk1 hk2=>by(repeat rw[if_neg (by omega)])⟩
   have hd:¬16<s1.o+1:=by have:=of_decide_eq_false hb;omega
   rw[if_neg hd]at hr;have hI2:RI t {s1 with o:=s1.o+1}:=⟨p1,by simp only;omega,fun _=>by simp only;omega⟩;have hm2:Ro.m t {s1 with o:=s1.o+1}=s1.m t:=rfl;obtain⟨y,hy⟩:∃y,y=ZV fs t f {s1 with o:=s1.o+1}:=⟨_,rfl⟩;obtain⟨z,hz⟩:∃z,z=Yh fs t f {s1 with o:=s1.o+1}:=⟨_,rfl⟩;have hyo:=((VZ (fs:=fs) ht f).2.2.2.2 {s1 with o:=s1.o+1} p1);have hzo:=((VZ (fs:=fs) ht f).1 {s1 with o:=s1.o+1} p1);have cY:=fun H n a b=>hy▸(hF f (by omega)).1 {s1 with o:=s1.o+1} H n hI2 (by omega) a b;have cZ:=fun H n a b=>hz▸(hF f (by omega)).2 {s1 with o:=s1.o+1} H n hI2 (by omega) a b;rw[←hy]at hyo;rw[←hz]at hzo;simp only[←hy,←hz]at hr;clear hy hz;have hyo1:=hyo.o;have hyo2:=hyo.o2;have hzo1:=hzo.o;have hzo2:=hzo.o2
   simp only at hyo1 hyo2 hzo1 hzo2;have e1:IntKind.i64.wrap ((y.2.o:Int)-1)=((y.2.o-1:Nat):Int):=by rw[w64 (by omega) (by omega)];omega
   obtain⟨u,hu⟩:∃u,u=isS t 103 [41] z.2:=⟨_,rfl⟩;have cU:=fun H n a b=>hu▸V7 fs t z.2 kr ht hzo.p 103 [41] H n a b;have huo:u.o=z.2.o:=by rw[hu];unfold isS;split;exact Y5 _ _;rfl
   try simp only[←hu]at hr
   clear hu;refine ak ?_;apply hK2;refine rg zs [0,2,4,6] ?_;refine Za fun K3 hK3=> ?_;refine rg zs [0,2,6,45] ?_;refine Zb ?_ ?_<;>intro hb
   ·refine rk zs [0,2,6,7] fun K V=> ?_;refine ck func151 ((cY _ _ (by omega) (by(try simp only[Rl]);(repeat first | rw[if_pos rfl] | rw[if_neg (by omega)]);rfl))) ?_;apply V;clear V K;refine ZO (n+1) 5 (ver:=0) (e:=5) (els:=[.agg [.str wNot,.nilsl,.str [],.str [],.int .i64 0]]) (els':=[.agg [.str wNot,.osl (n+3) 0 0 0,.str [],.str [],.int .i64 0]]) (by simp[Heap.put,wNot,g5]) ⟨Adp.agg ⟨.refl _ _,Adp.nilsl _,.refl _ _,.refl _ _,.refl _ _,trivial⟩,trivial⟩ ?_;refine rg1 zs [0,2,6] ?_;apply hK3;refine Zg zs [2,6] fun K V=> ?_
    try simp only[go_sem,seval,hR1,hszs,hags,hmos,hss,g1,g2,g3,g4,g5,g6,g7,g8,f1,f2,f3,f4,f5,f6,f7,f8,f9,h1,h2,h3,rwAV,Ro.obj,Ro.av,roAV,YZ,YS,Yz,Yf,hN,hG,Bool.false_eq_true,if_false,if_true,e1]
    repeat refine peel ?_
    apply V;clear V K;refine rg zs [2] ?_;refine ar ?_;rw[hr];exact⟨_,rfl,frz_nd1 _ _ _ _ (by(try simp only[Rl]);(repeat first | rw[if_pos rfl] | rw[if_neg (by omega)]);rfl) (by omega),rfl,fun k hk1 hk2=>by(repeat rw[if_neg (by omega)])⟩
   exact absurd hb (by simp)
  exact absurd hb (by simp)
theorem ref13_all{fs:List Fml}(hfs:fs.length≤1048576){t:List UInt8}(ht:t.length≤512){kr:Nat}(f:Nat):FactC fs t kr f∧TermC fs t kr f∧CondC fs t kr f:=by
 induction f using Nat.strongRecOn with
 | _ f ih=>exact⟨c_ref13_fact hfs ht fun g hg=>⟨(ih g hg).1,(ih g hg).2.2⟩,c_ref13_term ht fun g hg=>(ih g hg).1,c_ref13_cond ht fun g hg=>(ih g hg).2.1⟩
def s0R:Ro:=⟨⟨0,[],0,0⟩,0,0,-1⟩
def WJ(fs:List Fml)(t:List UInt8):CR×Int:=
 if 512<t.length then(.none,512)
 else if 0≤(Zl t s0R).bad then(.none,(Zl t s0R).bad)
 else((Yh fs t (8*t.length+16) (Zl t s0R)).1,(if (Yh fs t (8*t.length+16) (Zl t s0R)).2.bad<0∧(Yh fs t (8*t.length+16) (Zl t s0R)).2.w.kind≠101 then Y2 t (Yh fs t (8*t.length+16) (Zl t s0R)).2 else(Yh fs t (8*t.length+16) (Zl t s0R)).2).bad)
theorem readR_rel(fs : List Fml)(t : List UInt8): match Wu fs t with
   | .ok x=>(WJ fs t).2= -1∧(WJ fs t).1.tst fs=x.1
   | .error p=>(WJ fs t).2=p:=by
 unfold Wu WJ;by_cases h:512<t.length
 ·rw[if_pos h,if_pos h];rfl
 rw[if_neg h,if_neg h];have ht:t.length≤512:=om;have h1:=stepF_rel (t:=t) (s:=⟨0,⟨0,0,[],0,[]⟩,[],0⟩) ht (Nat.zero_le _);have e:Zl t (toR ⟨0,⟨0,0,[],0,[]⟩,[],0⟩)=Zl t s0R:=by
   unfold Zl YL toR s0R;by_cases hw:(XA t 0).2.2=true<;>simp[hw]
 rw[e]at h1;cases hs:Ue t ⟨0,⟨0,0,[],0,[]⟩,[],0⟩with
 | error p=>
   rw[hs]at h1;have hb:(Zl t s0R).bad=p:=h1.1;rw[VD,if_pos om];exact hb
 | ok s=>
   rw[hs]at h1;obtain⟨e1,e2,_⟩:=h1;rw[e1,if_neg (Nb s),ZY];have h2:=(condF_rel (fs:=fs) ht (8*t.length+16)).2.2.2.2 s e2;cases hc:UZ fs t (8*t.length+16) s with
   | error p=>
     rw[hc]at h2;have hb:(Yh fs t (8*t.length+16) (toR s)).2.bad=p:=h2;rw[VD,if_neg (by rintro⟨a,_⟩;omega)];exact hb
   | ok x=>
     rw[hc]at h2;obtain⟨c1,c2,c3,_⟩:=h2;rw[ZY];simp only[c1];have hkd:(toR x.2).w.kind=101↔x.2.nxt.kind=0:=(VR _).1;by_cases hk:x.2.nxt.kind=0
     ·rw[if_neg (by simp[hk]),if_neg (by rintro⟨_,a⟩;exact a (hkd.2 hk))];exact⟨rfl,c2⟩
     ·rw[if_pos hk,if_pos ⟨by simp[toR],fun a=>hk (hkd.1 a)⟩];exact UJ c3.w
theorem NHe0.eqs{P Q:Prop}(g:Imp P Q:=by(try simp only[go_sem,seval,hszs,hags,hmos,hss,f1,f2,f3,f4,f5,f6,f7,f8,f9,h1,h2,h3,rwAV,Ro.obj,Ro.av,roAV,YZ,YS,Yz,Yf]);exact Imp.rf):Imp P Q:=g
set_option maxHeartbeats 1600000 in
open NHe0 NY in
theorem Le(fs:List Fml)(hfs:fs.length≤1048576)(t:List UInt8)(H:Heap)(n:Nat):Ret prog 71 [Zh fs,.str t] H n (.tup [(WJ fs t).1.av,.int .i64 (WJ fs t).2]) H n:=by
 have hszs:(Zh fs).sz=1:=rfl;have hags:(Zh fs).isAgg=true:=rfl;have hmos:(Zh fs).memOK=true:=rfl;have hss:∀g,strip g (Zh fs)=Zh fs:=fun g=>by cases g<;>rfl
 have f1:(n=n+1)=False:=osi;have f2:(n+1=n)=False:=osi;have f3:(n+2=n)=False:=osi;have f4:(n+2=n+1)=False:=osi;have f5:(n+1=n+2)=False:=osi;have f6:(n=n+2)=False:=osi;have f7:(n=n+3)=False:=osi;have f8:(n+1=n+3)=False:=osi;have f9:(n+2=n+3)=False:=osi;have h1:(n+3=n)=False:=osi;have h2:(n+3=n+1)=False:=osi;have h3:(n+3=n+2)=False:=osi;obtain⟨r,hr⟩:∃r,r=WJ fs t:=⟨_,rfl⟩;rw[←hr];unfold WJ at hr;refine Ret.fin ?_;refine fw func71 ntmps71 results71 ?_;refine rg zs [1,2,4] ?_;refine Za fun K1 hK1=> ?_;refine rg zs [1,2,4,10] ?_;refine Zb ?_ ?_<;>intro hb
 ·have hd:512<t.length:=ott;rw[if_pos hd]at hr;refine rg zs [4,5] ?_;refine kbj ?_;exact VX _ _ _ _
 have hd:¬512<t.length:=otf;rw[if_neg hd]at hr;have ht:t.length≤512:=om;have p1:=Qk (s:=s0R) ht (Nat.zero_le _);have ho:=Y5 t s0R;obtain⟨s,hs⟩:∃s,s=Zl t s0R:=⟨_,rfl⟩;have cN:=fun kr H n a b=>hs▸WA fs t s0R kr ht (Nat.zero_le _) H n a b;rw[←hs]at hr p1 ho;clear hs;have ho2:s.o=0:=ho;have hms:s.m t≤t.length+1:=by unfold Ro.m;split;(split<;>omega);omega
 have hI:RI t s:=⟨p1,om,fun _=>om⟩;refine kay ?_;refine rg zs [4,6] ?_;refine rk zs [4,6] fun K V=> ?_;refine ck func106 ((cN (n+2) _ _ om (Rm _ _ _))) ?_;refine kas ?_;refine Za fun K2 hK2=> ?_;refine rg zs [4,6,22] ?_;refine Zb ?_ ?_<;>intro hb
 ·rw[if_pos (of_decide_eq_true hb)]at hr;refine dx zs [4,5] [.q,.m,.q,.q,.q,.w [2,3,4],.q] [0,1,2,3,4,5,6] [0,1,2,3,4,5,6] fun K V=> ?_;refine kas ?_;refine kbj ?_;exact VX _ _ _ _
 rw[if_neg (of_decide_eq_false hb)]at hr;obtain⟨x,hx⟩:∃x,x=Yh fs t (8*t.length+16) s:=⟨_,rfl⟩;have cC:=fun H n9 a b=>hx▸(ref13_all hfs ht (kr:=n+2) (8*t.length+16)).2.2 s H n9 hI om a b;have hxo:=(VZ (fs:=fs) ht (8*t.length+16)).1 s p1;rw[←hx]at hr hxo;clear hx;refine kaQ ?_;refine rk zs [4,6,7] fun K V=> ?_;refine ck func107 ((cC _ _ om ohr)) ?_;refine kas ?_;refine Za fun K3 hK3=> ?_;refine rg zs [4,6,7,42] ?_;refine Zb ?_ ?_<;>intro hb
 ·have hz:=Vw hb;rw[if_pos ⟨of_decide_eq_true hz.1,by have h9:=hz.2;simp at h9;omega⟩]at hr;refine rk1 zs [4,6,7] fun K V=> ?_;refine ck func108 ((XY fs t x.2 (n+2) _ _ om ohr)) ?_;refine kas ?_;refine ns ?_;apply hK3;refine dx zs [4,5] [.q,.m,.q,.q,.q,.w [2,3,4],.q] [0,1,2,3,4,5,6] [0,1,2,3,4,5,6] fun K V=> ?_;refine kas ?_;refine kbj ?_;exact .kl (Ng _ _)
 rw[if_neg (by rintro⟨a1,a2⟩;rw[decide_eq_true a1]at hb;have h9:=hb;simp at h9;omega)]at hr;refine kba ?_;refine dx zs [4,5] [.q,.m,.q,.q,.q,.w [2,3,4],.q] [0,1,2,3,4,5,6] [0,1,2,3,4,5,6] fun K V=> ?_;refine kas ?_;refine kbj ?_;exact .kl (Ng _ _)
theorem Xh:∀a b:List UInt8,(Lib.compareBytes a b=0↔a=b)∧(Op.bytesLess a b=decide (Lib.compareBytes a b<0))
 | [],[]=>by simp[Lib.compareBytes,Op.bytesLess]
 | [],_::_=>by simp[Lib.compareBytes,Op.bytesLess]
 | _::_,[]=>by simp[Lib.compareBytes,Op.bytesLess]
 | a::x,b::y=>by
   obtain⟨h1,h2⟩:=Xh x y;unfold Lib.compareBytes Op.bytesLess;by_cases ha:a<b
   ·have hne:a≠b:=fun e=>by subst e;exact absurd ha (UInt8.lt_irrefl _)
    simp[ha,hne]
   ·by_cases hb:b<a
    ·have hne:a≠b:=fun e=>by subst e;exact absurd hb (UInt8.lt_irrefl _)
     simp[ha,hb,hne]
    ·have e:a=b:=UInt8.le_antisymm (UInt8.not_lt.1 hb) (UInt8.not_lt.1 ha);subst e;simp only[if_neg ha,decide_eq_false ha,beq_self_eq_true,Bool.true_and,Bool.false_or,List.cons.injEq,true_and];exact⟨h1,h2⟩
theorem NHf0.eqs{P Q:Prop}(g:Imp P Q:=by(try simp only[go_sem,seval,hsz,Ze,Zx,bys,qb,Zt]);exact Imp.rf):Imp P Q:=g
theorem NHf0.sd{P:Prop}(g:P:=by first | exact Yg _ | exact fun _=>Yg _ | (intros;simp_all;done) | fail):P:=g
open NHf0 NZ in
theorem Jg(q:QryE)(row:List UInt8)(H:Heap)(n:Nat):Ret prog 89 [Ze q,bys row] H n (.bool (YX q row)) H n:=by
 have hsz:(Ze q).sz=10:=ZT q;refine Ret.fin ?_;refine fw func89 ntmps89 results89 ?_;refine rg zs [1,2] ?_;refine rg zs [2,5] ?_;refine kag ?_;refine⟨_,rfl,fun k hk=>onn,XW ?_⟩;unfold YX;have e1:((q.to.length:Int)==0)=decide (q.to.length=0):=by rw[Bool.eq_iff_iff,beq_iff_eq,decide_eq_true_eq];omega
 rw[e1];have e2:(!decide (Lib.compareBytes row q.frm<0))=decide (0≤Lib.compareBytes row q.frm):=by rw[←decide_not];exact decide_eq_decide.2 om
 rw[(Xh row q.frm).2,(Xh row q.to).2,e2];exact kcP
theorem NHf1.eqs{P Q:Prop}(g:Imp P Q:=by(try simp only[go_sem,seval,hsz,hszs,Zh,Ze,Zx,bys,qb,f1,f2,Zt,hx0,hle]);exact Imp.rf):Imp P Q:=g
theorem NHf1.sd{P:Prop}(g:P:=by first | (intros;simp_all;done) | exact fun _=>Yg _ | fail):P:=g
set_option maxHeartbeats 1600000 in
open NHf1 NZ in
theorem PZ(fs:List Fml)(hfs:fs.length≤1048576)(q:QryE)(hq:q.fams.length≤1048576)(H:Heap)(n:Nat):Ret prog 70 [Zh fs,Ze q] H n (.int .i64 (if Yy fs.length q then 0 else 130)) H n:=by
 have hszs:(Zh fs).sz=1:=rfl;have hsz:(Ze q).sz=10:=ZT q;have f1:(n=n+1)=False:=osi;have f2:(n+1=n)=False:=osi;have hx0:IntKind.i64.wrap ((fs.length:Int)-1)=(fs.length:Int)-1:=w64 om om;have hle:(Op.bytesLess q.to q.frm||q.to==q.frm)=decide (Lib.compareBytes q.to q.frm≤0):=by
   obtain⟨h1,h2⟩:=Xh q.to q.frm;rw[h2];by_cases h:q.to=q.frm
   ·rw[decide_eq_true (by have:=h1.2 h;omega:Lib.compareBytes q.to q.frm≤0)];simp[h]
   ·have:Lib.compareBytes q.to q.frm≠0:=fun e=>h (h1.1 e);rw[show(q.to==q.frm)=false from beq_eq_false_iff_ne.2 h,Bool.or_false];exact decide_eq_decide.2 om
 refine Ret.fin ?_;refine fw func70 ntmps70 results70 ?_;refine rg zs [2,3] ?_;refine Za fun K1 hK1=> ?_;refine rg zs [2,3,30] ?_;refine Zb ?_ ?_<;>intro hb
 ·have h1:Ja q=true:=by unfold Ja;simp only[Int.natCast_pos]at hb;grind
  have hf:Yy fs.length q=false:=by unfold Yy;rw[h1];rfl
  refine kag ?_;exact kbF
 have h1:Ja q=false:=by unfold Ja;simp only[Int.natCast_pos]at hb;grind
 refine kay ?_;refine Za fun K2 hK2=> ?_;refine rg zs [2,3,5] ?_;refine kbM ?_;refine Zk (fun T' H' n'=>∃i:Nat,i≤q.fams.length∧(∀j,j<i→fbad fs.length q.fams j=false)∧T'=tl [(2,.loc n 0 0 0 []),(3,.loc (n+1) 0 0 0 []),(5,.int .i64 i)]∧H'=(H.put n (some (.arr 0 1 [Zh fs]))).put (n+1) (some (.arr 0 10 [Ze q]))∧n'=n+2) (fun T' _ _=>q.fams.length-iv (T' 5)) ?_ ?_
 ·exact⟨0,Nat.zero_le _,fun j hj=>absurd hj (Nat.not_lt_zero _),rfl,by simp[Zh,Ze,Zx,bys],rfl⟩
 rintro T1 H1 n1 ⟨i,hi,hno,rfl,rfl,rfl⟩;refine Za fun K3 hK3=> ?_;refine rg zs [2,3,5,35] ?_;refine Zb ?_ ?_<;>intro hb
 ·have hlt:i<q.fams.length:=ott;have hnth:nth (q.fams.map fun n=>AV.int .i64 n) i=AV.int .i64 (q.fams.getD i 0):=Zr (fun n=>AV.int .i64 n) q.fams _ hlt;have hnth2:nth (q.fams.map fun n=>AV.int .i64 n) ((i:Int)-1).toNat=AV.int .i64 (q.fams.getD (i-1) 0):=by rw[show((i:Int)-1).toNat=i-1 by omega];exact Zr (fun n=>AV.int .i64 n) q.fams _ om
  have hx:IntKind.i64.wrap ((i:Int)+1)=((i+1:Nat):Int):=w1 om;have hx2:IntKind.i64.wrap ((i:Int)-1)=(i:Int)-1:=w64 om om;have hfb:(bif bout (q.fams.getD i 0) 0 ((fs.length:Int)-1)then true else bif decide ((0:Int)<(i:Int))then decide (q.fams.getD i 0≤q.fams.getD (i-1) 0)else false)=fbad fs.length q.fams i:=by
    unfold bout fbad;rw[show decide ((fs.length:Int)-1<q.fams.getD i 0)=decide ((fs.length:Int)≤q.fams.getD i 0)from decide_eq_decide.2 om,show decide ((0:Int)<(i:Int))=decide (0<i)from decide_eq_decide.2 om];cases decide (q.fams.getD i 0<0)<;>cases decide ((fs.length:Int)≤q.fams.getD i 0)<;>cases decide (0<i)<;>rfl
  refine kba ?_;refine bk fun K4 hK4=> ?_;refine Y0 rfl zs [2,3,5,65] [.q,.q,.m,.q,.q,.q,.q,.q,.q,.c,.m,.m,.q,.m,.q,.q,.m,.q,.q,.q,.q,.m,.q,.q,.q,.q,.q,.q] [0,1,2,3,4,5,6,7,8,9,10,11,12,13,14,15,16,17,18,19,20,21,22,23,24,25,26,27] [0,1,2,3,4,5,6,7,8,9,10,11,12,13,14,15,16,17,18,19,20,21,22,23,24,25,26,27] (by kernel_rfl) (fun _ _ _ _ _ h=>h) fun K V=> ?_
  try simp only[go_sem,seval,hsz,hszs,Zh,Ze,Zx,bys,qb,f1,f2,Zt,hx0,hle,hnth,hnth2,hx2,qd]
  repeat (first | (refine And.intro ?_ ?_;· first | exact⟨om,om⟩) | refine peel ?_)
  refine ZQ func68 rfl rfl rfl (fun _ n=>(by apply Vs<;>first | assumption | omega)) ?_
  try simp only[go_sem,seval,hsz,hszs,Zh,Ze,Zx,bys,qb,f1,f2,Zt,hx0,hle,hnth,hnth2,hx2,qd]
  repeat (first | (refine And.intro ?_ ?_;· first | (intro hx9;have h9:0<i:=(by simp at hx9;omega);exact⟨om,om⟩) | (intros;simp_all;done)) | refine peel ?_)
  refine kas ?_;refine Zb ?_ ?_<;>intro hb
  ·have hf1:fbad fs.length q.fams i=true:=hfb.symm.trans hb;have hf:Yy fs.length q=false:=by
     exact kbE
   refine kag ?_;exact kbF
  have hf1:fbad fs.length q.fams i=false:=hfb.symm.trans hb;refine kb3 ?_;refine ZP zs [2,3,5] fun K V=> ?_
  try simp only[go_sem,seval,hsz,hszs,Zh,Ze,Zx,bys,qb,f1,f2,Zt,hx0,hle,hx]
  refine kad ?_;exact kbH
 have hge:i=q.fams.length:=otf;have hfu:Qn fs.length q.fams=true:=by unfold Qn;rw[List.all_eq_true];intro j hj;rw[hno j (by have:=List.mem_range.1 hj;omega)];rfl
 have h3:(bif (bif (bif decide ((256:Int)<(q.pre.length:Int))then true else bout q.time 0 1099511627776)then true else bout q.n 1 16)then true else bout q.rows 1 1000)= !Uo q:=by
   unfold bout Uo;rw[show decide ((256:Int)<(q.pre.length:Int))= !decide (q.pre.length≤256) by rw[←decide_not];exact decide_eq_decide.2 om,show decide (q.time<0)= !decide (0≤q.time) by rw[←decide_not];exact decide_eq_decide.2 om,show decide ((1099511627776:Int)<q.time)= !decide (q.time≤1099511627776) by rw[←decide_not];exact decide_eq_decide.2 om,show decide (q.n<1)= !decide (1≤q.n) by rw[←decide_not];exact decide_eq_decide.2 om,show decide ((16:Int)<q.n)= !decide (q.n≤16) by rw[←decide_not];exact decide_eq_decide.2 om,show decide (q.rows<1)= !decide (1≤q.rows) by rw[←decide_not];exact decide_eq_decide.2 om,show decide ((1000:Int)<q.rows)= !decide (q.rows≤1000) by rw[←decide_not];exact decide_eq_decide.2 om];cases decide (q.pre.length≤256)<;>cases decide (0≤q.time)<;>cases decide (q.time≤1099511627776)<;>cases decide (1≤q.n)<;>cases decide (q.n≤16)<;>cases decide (1≤q.rows)<;>cases decide (q.rows≤1000)<;>rfl
 refine ax ?_;apply hK2;refine Za fun K5 hK5=> ?_;refine rk zs [84] fun K V=> ?_;refine kcS ?_;refine kcS ?_;refine kcS ?_;refine kas ?_;refine Zb ?_ ?_<;>intro hb
 ·have hf:Yy fs.length q=false:=by have:=h3.symm.trans hb;unfold Yy;rw[h1,hfu];cases e:Uo q<;>simp_all
  refine kag ?_;exact kbF
 have hf:Yy fs.length q=true:=by have:=h3.symm.trans hb;unfold Yy;rw[h1,hfu];cases e:Uo q<;>simp_all
 refine ak ?_;apply hK5;refine kag ?_;exact kbF
theorem Rb(x:Int):0≤intBits .and .u8 x 15∧intBits .and .u8 x 15<16:=by
 have h:intBits .and .u8 x 15=(((BitVec.ofInt 8 x) &&& 15#8).toNat:Int):=by
   show IntKind.u8.wrap (((BitVec.ofInt 8 x) &&& (BitVec.ofInt 8 15)).toNat:Int)=_;rw[IntKind.wrap_u8,show BitVec.ofInt 8 15=15#8 by decide];have:=((BitVec.ofInt 8 x) &&& 15#8).isLt;omega
 have h2:((BitVec.ofInt 8 x) &&& 15#8).toNat≤15:=by rw[BitVec.toNat_and];exact Nat.and_le_right
 omega
def tabQ(i:Int):Int:=QQ.getD i.toNat 0
theorem nth_tab(x:Int):nth Ux (intBits .and .u8 x 15).toNat= .int .u32 (tabQ (intBits .and .u8 x 15)):=by
 have h:=Rb x;unfold tabQ Ux;exact Zr (fun n=>AV.int .u32 n) QQ _ (by rw[show QQ.length=16 from rfl];omega)
def sumS(c:Int)(b:UInt8):Int:=
 let c1:=intBits .xor .u32 (c.fdiv (2^min 4 32)) (tabQ (intBits .and .u8 (intBits .xor .u8 (IntKind.u8.wrap c) b.toNat) 15))
 intBits .xor .u32 (c1.fdiv (2^min 4 32)) (tabQ (intBits .and .u8 (intBits .xor .u8 (IntKind.u8.wrap c1) ((b.toNat:Int).fdiv (2^min 4 8))) 15))
def sumP(c:Int)(b:List UInt8):Int:=b.foldl sumS c
def sumF(parts:List (List UInt8)):Int:=intBits .xor .u32 4294967295 (parts.foldl sumP 4294967295)
def lowB(v:Int):List UInt8:=[Yb v,Yb (v/256),Yb (v/65536),Yb (v/16777216)]
theorem NQi0.eqs{P Q:Prop}(g:Imp P Q:=by(try simp only[go_sem,seval,qb,hT]);exact Imp.rf):Imp P Q:=g
open NQi0 NY in
theorem V5(parts:List (List UInt8))(hp:parts.length≤1048576)(hbs:∀b∈parts,b.length≤1099511627776){H:Heap}{n:Nat}(hG:GOK 1 1 H n):Ret prog 86 [.sl 1 (parts.map bys)] H n (.int .u32 (sumF parts)) H n:=by
 have hT:=hG.table;refine fw func86 ntmps86 results86 ?_;refine kcu ?_;refine rg zs [0,3] ?_;refine Za fun K1 hK1=> ?_;refine rg zs [3,8,9,10] ?_;refine kbM ?_;refine Zk (fun T' H' n'=>∃i:Nat,i≤parts.length∧T'=tl [(3,.int .u32 ((parts.take i).foldl sumP 4294967295)),(8,.sl 1 (parts.map bys)),(9,.int .i64 parts.length),(10,.int .i64 i)]∧H=H'∧n=n') (fun T' _ _=>parts.length-iv (T' 10)) ?_ ?_
 ·exact⟨0,Nat.zero_le _,rfl,rfl,rfl⟩
 rintro T1 H1 n1 ⟨i,hi,rfl,rfl,rfl⟩;refine rg zs [3,8,9,10,11] ?_;refine Za fun K2 hK2=> ?_;refine Zb ?_ ?_<;>intro hb
 ·have hlt:i<parts.length:=ott;have hnth:nth (parts.map bys) i=bys (parts.getD i []):=Zr bys parts _ hlt;have hx:IntKind.i64.wrap ((i:Int)+1)=((i+1:Nat):Int):=w1 om;have hm:parts.getD i []∈parts:=by rw[show parts.getD i []=parts[i] by simp[List.getD,hlt]];exact List.getElem_mem hlt
  obtain⟨b,hbd⟩:∃b,b=parts.getD i []:=⟨_,rfl⟩;rw[←hbd]at hnth hm;have hbl:=hbs b hm;refine kaQ ?_;refine bk fun K3 hK3=> ?_;refine Zg zs [3,5,8,9,10] fun K V=> ?_
  try simp only[go_sem,seval,qb,hT,hnth,qd]
  repeat (first | (refine And.intro ?_ ?_;· first | exact⟨om,om⟩) | refine peel ?_)
  refine kas ?_;refine rg zs [3,8,9,10,14,15,16] ?_;refine kbM ?_;refine Zk (fun T' H' n'=>∃j:Nat,j≤b.length∧T'=tl [(3,.int .u32 (sumP ((parts.take i).foldl sumP 4294967295) (b.take j))),(8,.sl 1 (parts.map bys)),(9,.int .i64 parts.length),(10,.int .i64 i),(14,bys b),(15,.int .i64 b.length),(16,.int .i64 j)]∧H=H'∧n=n') (fun T' _ _=>b.length-iv (T' 16)) ?_ ?_
  ·exact⟨0,Nat.zero_le _,rfl,rfl,rfl⟩
  rintro T1 H1 n1 ⟨j,hj,rfl,rfl,rfl⟩;refine rg zs [3,8,9,10,14,15,16,17] ?_;refine Za fun K4 hK4=> ?_;refine Zb ?_ ?_<;>intro hb
  ·have hltj:j<b.length:=ott;have hntj:nth (b.map Zd) j=Zd (b.getD j 0):=Zr Zd b _ hltj;have hxj:IntKind.i64.wrap ((j:Int)+1)=((j+1:Nat):Int):=w1 om;have hst:sumP ((parts.take i).foldl sumP 4294967295) (b.take (j+1))=sumS (sumP ((parts.take i).foldl sumP 4294967295) (b.take j)) (b.getD j 0):=by unfold sumP;rw[List.take_succ_eq_append_getElem hltj,List.foldl_append];simp[List.getD,hltj]
   generalize hcc:sumP ((parts.take i).foldl sumP 4294967295) (b.take j)=c at hst;refine kb3 ?_;refine bk fun K5 hK5=> ?_;refine Zg zs [3,7,8,9,10,14,15,16] fun K V=> ?_
   try simp only[go_sem,seval,qb,hT,hntj,qd]
   repeat (first | (refine And.intro ?_ ?_;· first | exact⟨om,om⟩) | refine peel ?_)
   refine kas ?_;refine Zg zs [3,7,8,9,10,14,15,16] fun K V=> ?_
   try simp only[go_sem,seval,qb,hT,nth_tab]
   repeat (first | (refine And.intro ?_ ?_;· first | exact⟨(Rb _).1,(Rb _).2,rfl⟩) | refine peel ?_)
   refine kas ?_;refine ZP zs [3,8,9,10,14,15,16] fun K V=> ?_
   try simp only[go_sem,seval,qb,hT,nth_tab]
   repeat (first | (refine And.intro ?_ ?_;· first | exact⟨(Rb _).1,(Rb _).2,rfl⟩) | refine peel ?_)
   refine kas ?_;refine ns ?_;apply hK5;refine rg1 zs [3,8,9,10,14,15,16] ?_;refine⟨⟨j+1,om,?_⟩,by rw[hxj];omega⟩;rw[hxj];rw[hst];rfl
  refine ax ?_;apply hK3;refine rg1 zs [3,8,9,10] ?_;have hgj:b.length≤j:=otf;refine⟨⟨i+1,om,?_⟩,by rw[hx];omega⟩;rw[hx,List.take_of_length_le hgj,List.take_succ_eq_append_getElem hlt,List.foldl_append,hbd];simp[List.getD,hlt]
 have hge:i=parts.length:=otf;refine ax ?_;apply hK1;refine kal ?_;rw[hge,List.take_length];rfl
theorem fdiv8(v:Int):v.fdiv (2^min 8 32)=v/256:=by rw[show(2:Int)^min 8 32=256 by decide,Int.fdiv_eq_ediv_of_nonneg _ odc]
theorem fdiv16(v:Int):v.fdiv (2^min 16 32)=v/65536:=by rw[show(2:Int)^min 16 32=65536 by decide,Int.fdiv_eq_ediv_of_nonneg _ odc]
theorem fdiv24(v:Int):v.fdiv (2^min 24 32)=v/16777216:=by rw[show(2:Int)^min 24 32=16777216 by decide,Int.fdiv_eq_ediv_of_nonneg _ odc]
theorem NQi1.eqs{P Q:Prop}(g:Imp P Q:=by(try simp only[go_sem,seval,fdiv8,fdiv16,fdiv24,XJ]);exact Imp.rf):Imp P Q:=g
theorem NQi1.sd{P:Prop}(g:P:=by first | exact⟨rfl,by(simp[Zd,AV.sz,AV.memOK];first | done | fail)⟩ | fail):P:=g
open NQi1 NZ in
theorem c_wire_low0(v:Int)(H:Heap)(n:Nat):Ret prog 123 [.nilsl,.int .u32 v] H n (bys (lowB v)) H n:=by
 refine Ret.fin ?_;refine fw func123 ntmps123 results123 ?_;refine kb1 ?_;refine ZN 0 1 rfl ?_;simp only[go_sem,seval];refine kag ?_;exact⟨_,rfl,fun k hk=>by rw[if_neg om],.osl (Rm _ _ _) (Nat.le_refl _) osi (XM _ (Z4 (lowB v) _))⟩
theorem NQi2.eqs{P Q:Prop}(g:Imp P Q:=by(try simp only[go_sem,seval,hk,e1,qb,fdiv8,fdiv16,fdiv24,XJ]);exact Imp.rf):Imp P Q:=g
theorem NQi2.sd{P:Prop}(g:P:=by first | exact⟨rfl,by(simp[Zd,AV.sz,AV.memOK];first | done | fail)⟩ | exact⟨om,.inr trivial,om,om⟩ | fail):P:=g
open NQi2 NZ in
theorem NU(v:Int)(b:List UInt8)(hb:b.length≤1099511627776)(k ver:Nat){H:Heap}{n:Nat}(hk:H k=some (.arr ver 1 (b.map Zd))):Ret prog 123 [.osl k ver 0 b.length,.int .u32 v] H n (.osl k (ver+1) 0 (b++lowB v).length) (H.put k (some (.arr (ver+1) 1 ((b++lowB v).map Zd)))) n:=by
 have e1:List.take b.length (List.map Zd b)=List.map Zd b:=List.take_of_length_le osi;refine fw func123 ntmps123 results123 ?_;refine kb1 ?_;refine kag ?_;refine⟨by simp[lowB],by rw[qj];rfl⟩
theorem NQi3.eqs{P Q:Prop}(g:Imp P Q:=by(try simp only[go_sem,seval,e1,e2,qb,Option.getD_some,qd]);exact Imp.rf):Imp P Q:=g
theorem NQi3.sd{P:Prop}(g:P:=by first | exact⟨om,om,om,fun m h=>h.elim⟩ | fail):P:=g
open NQi3 NZ in
theorem c_wire_is(b:List UInt8)(p:Nat)(v:Int)(hp:p+4≤b.length)(hb:b.length≤1099511627776)(H:Heap)(n:Nat):Ret prog 131 [bys b,.int .i64 p,.int .u32 v] H n (.bool ((b.drop p).take 4==lowB v)) H n:=by
 have e1:IntKind.i64.wrap ((p:Int)+4)=((p+4:Nat):Int):=by rw[w64 om om];omega
 have e2:List.drop p (List.take (p+4) (b.map Zd))=((b.drop p).take 4).map Zd:=by rw[List.take_add,List.drop_append_of_le_length oz,List.drop_take_self,List.nil_append,←List.map_drop,←List.map_take]
 refine fw func131 ntmps131 results131 ?_;refine rg zs [0,1,2] ?_;refine dx zs [6] [.m,.m,.m,.q,.q,.m,.c,.c,.q] [0,1,2,3,4,5,6,7,8] [0,1,2,3,4,5,6,7,8] fun K V=> ?_;refine cq func123 (fun _ n=>(c_wire_low0 v _ _)) ?_;refine cq func96 (fun _ n=>(UI ((b.drop p).take 4) (lowB v) _ _)) ?_;refine kas ?_;refine ar ?_;trivial
def HQ:Heap:=fun k=>if k=1 then some (.glob 1 Ux)else if k=1 then some (.glob 5 LZ)else none
theorem Kk{n:Nat}(h1:1<n)(h2:1<n):GOK 1 1 HQ n:=⟨fun h=>(if_neg h).trans (if_pos rfl),if_pos rfl,h1,h2⟩
theorem VW{H:Heap}{n:Nat}(hG:GOK 1 1 H n):Jq H HQ:=fun k o h=>by
 unfold HQ at h;by_cases e:k=1
 ·rw[if_pos e]at h;cases h;subst e;exact⟨hG.table,1,Ux,rfl,Xq (fun n:Int=> .int .u32 n) (fun _=>trivial) _⟩
 ·rw[if_neg e]at h;by_cases e2:k=1
  ·rw[if_pos e2]at h;cases h;subst e2;exact⟨hG.kindsC e,5,LZ,rfl,Xq (fun i:Nat=>kindAV i) (fun _=>⟨trivial,trivial,trivial,trivial,trivial,trivial⟩) _⟩
  ·rw[if_neg e2]at h;cases h
theorem c_Sum_osl(b:List UInt8)(hb:b.length≤1099511627776){k ver:Nat}{H:Heap}{n:Nat}(hG:GOK 1 1 H n)(hk:H k=some (.arr ver 1 (b.map Zd))):Ret prog 86 [.sl 1 [.osl k ver 0 b.length]] H n (.int .u32 (sumF [b])) H n:=
 R9 (H0:=HQ) (args':=[.sl 1 ([b].map bys)]) (VW hG) (.cons (.sl (.cons (.osl hk (Nat.zero_le _) osi (by rw[List.drop_zero,List.take_of_length_le osi];exact XM _ (Z4 _ _))) .nil)) .nil) trivial
   (V5 [b] osi (fun x hx=>by rw[List.mem_singleton.1 hx];exact hb) (Kk hG.gek hG.get))
def YI(n:Nat):List UInt8:=[Yb ((n:Int)/16777216),Yb ((n:Int)/65536),Yb ((n:Int)/256),Yb (n:Int)]
def Yd(b:List UInt8):List UInt8:=YI b.length++lowB (sumF [YI b.length])++b++lowB (sumF [b])
theorem fdiv8'(v:Int):v.fdiv (2^min 8 64)=v/256:=by rw[show(2:Int)^min 8 64=256 by decide,Int.fdiv_eq_ediv_of_nonneg _ odc]
theorem fdiv16'(v:Int):v.fdiv (2^min 16 64)=v/65536:=by rw[show(2:Int)^min 16 64=65536 by decide,Int.fdiv_eq_ediv_of_nonneg _ odc]
theorem fdiv24'(v:Int):v.fdiv (2^min 24 64)=v/16777216:=by rw[show(2:Int)^min 24 64=16777216 by decide,Int.fdiv_eq_ediv_of_nonneg _ odc]
theorem NQj0.eqs{P Q:Prop}(g:Imp P Q:=by(try simp only[go_sem,seval,qb,fdiv8',fdiv16',fdiv24',XJ,e0]);exact Imp.rf):Imp P Q:=g
theorem NQj0.sd{P:Prop}(g:P:=by first | exact⟨rfl,by(simp[Zd,AV.sz,AV.memOK];first | done | fail)⟩ | exact⟨om,om⟩ | fail):P:=g
open NQj0 NZ in
theorem o_wire_Frame(b:List UInt8)(hb:b.length≤1048576){H:Heap}{n:Nat}(hG:GOK 1 1 H n):Zn prog 85 [bys b] H n (OAns H n (.tup [bys (Yd b),.int .i64 0])):=by
 have hG0:=hG;have hl8:(YI b.length++lowB (sumF [YI b.length])).length=8:=rfl;have e8:List.take (YI b.length++lowB (sumF [YI b.length])).length (List.map Zd (YI b.length++lowB (sumF [YI b.length])))=List.map Zd (YI b.length++lowB (sumF [YI b.length])):=List.take_of_length_le osi;have e0:IntKind.i64.wrap ((b.length:Int)+12)=((b.length+12:Nat):Int):=by rw[w64 om om];omega
 refine fw func85 ntmps85 results85 ?_;refine kcu ?_;refine rg zs [0,4] ?_;refine Za fun K1 hK1=> ?_;refine rg zs [0,4,9] ?_;refine Zb ?_ ?_<;>intro hb
 ·exact absurd (of_decide_eq_true hb) om
 refine kay ?_;refine rg zs [0,5] ?_;refine ZG (fun H' n'=>H' n=some (.arr 1 1 ((YI b.length).map Zd))∧GOK 1 1 H' n'∧(∀k,k<n→H' k=H k)∧n'=n+1) ⟨Rm _ _ _,hG.on (fun k hk=>Rk _ _ om) om,fun k hk=>Rk _ _ om,rfl⟩ fun H1 n1 ⟨r1,hG,hl1,hn1⟩=> ?_;subst hn1;refine Zg zs [0,5] fun K V=> ?_;refine kcA ?_
 repeat (first | (refine And.intro ?_ ?_;· first | exact⟨rfl,by simp[Zd,AV.sz,AV.memOK]⟩) | refine peel ?_)
 refine Zu func86 rfl rfl rfl ((c_Sum_osl (YI b.length) (by simp[YI]) hG r1)) ?_;refine kcA ?_
 repeat refine peel ?_
 refine Zu func123 rfl rfl rfl ((NU (sumF [YI b.length]) (YI b.length) (by simp[YI]) n 1 r1)) ?_;refine kcA ?_
 repeat (first | (refine And.intro ?_ ?_;· first | exact⟨om,.inr trivial,by rw[hl8];omega,by rw[hl8];omega⟩) | refine peel ?_)
 refine kas ?_;refine ZG (fun H' n'=>H' n=some (.arr 3 1 ((YI b.length++lowB (sumF [YI b.length])++b).map Zd))∧GOK 1 1 H' n'∧(∀k,k<n→H' k=H k)∧n'=n+1) ⟨by simp only[Rm,qj],hG0.on (fun k hk=>(Rk _ _ om).trans (hl1 k hk)) om,fun k hk=>(Rk _ _ om).trans (hl1 k hk),rfl⟩ fun H2 n2 ⟨r2,hG,hl2,hn2⟩=> ?_;subst hn2;refine kbS ?_;refine rk zs [2,3] fun K V=> ?_;refine ck func86 ((V5 [b] osi (fun x hx=>by rw[List.mem_singleton.1 hx];omega) hG)) ?_;refine ck func123 ((NU (sumF [b]) (YI b.length++lowB (sumF [YI b.length])++b) (by rw[qe,hl8];omega) n 3 r2)) ?_;refine kas ?_;refine ar ?_;exact OAns.one (RS (.osl (Rm _ _ _) osi (by rw[List.take_of_length_le osi];exact RD _ (WW (Yd b))))) om (fun k hk=>(Rk _ _ om).trans (hl2 k hk)) om
theorem or_nat{x y:Nat}(hx:x<9223372036854775808)(hy:y<9223372036854775808):intBits .or .i64 (x:Int) (y:Int)=((x ||| y:Nat):Int)∧x ||| y<9223372036854775808:=by
 have h3:x ||| y<9223372036854775808:=Nat.or_lt_two_pow (n:=63) hx hy
 refine⟨?_,h3⟩;show IntKind.i64.wrap (((BitVec.ofInt 64 (x:Int)) ||| (BitVec.ofInt 64 (y:Int))).toNat:Int)=_;rw[BitVec.ofInt_natCast,BitVec.ofInt_natCast,BitVec.toNat_or,BitVec.toNat_ofNat,BitVec.toNat_ofNat,Nat.mod_eq_of_lt om,Nat.mod_eq_of_lt om,w64 om om]
def hd4(b:List UInt8):Nat:=(((b.getD 0 0).toNat*16777216 ||| (b.getD 1 0).toNat*65536) ||| (b.getD 2 0).toNat*256) ||| (b.getD 3 0).toNat
theorem hd4_int(b:List UInt8):intBits .or .i64 (intBits .or .i64 (intBits .or .i64 (IntKind.i64.wrap (IntKind.i64.wrap ((b.getD 0 0).toNat:Int)*2^min 24 64)) (IntKind.i64.wrap (IntKind.i64.wrap ((b.getD 1 0).toNat:Int)*2^min 16 64))) (IntKind.i64.wrap (IntKind.i64.wrap ((b.getD 2 0).toNat:Int)*2^min 8 64))) (IntKind.i64.wrap ((b.getD 3 0).toNat:Int))=((hd4 b:Nat):Int)∧hd4 b<9223372036854775808:=by
 have a0:=(b.getD 0 0).toNat_lt;have a1:=(b.getD 1 0).toNat_lt;have a2:=(b.getD 2 0).toNat_lt;have a3:=(b.getD 3 0).toNat_lt;unfold hd4;generalize (b.getD 0 0).toNat=x0 at*;generalize (b.getD 1 0).toNat=x1 at*;generalize (b.getD 2 0).toNat=x2 at*;generalize (b.getD 3 0).toNat=x3 at*;have e0:IntKind.i64.wrap (IntKind.i64.wrap (x0:Int)*2^min 24 64)=((x0*16777216:Nat):Int):=by rw[w64 (n:=(x0:Int)) om om,show(2:Int)^min 24 64=16777216 by decide,w64 om om];omega
 have e1:IntKind.i64.wrap (IntKind.i64.wrap (x1:Int)*2^min 16 64)=((x1*65536:Nat):Int):=by rw[w64 (n:=(x1:Int)) om om,show(2:Int)^min 16 64=65536 by decide,w64 om om];omega
 have e2:IntKind.i64.wrap (IntKind.i64.wrap (x2:Int)*2^min 8 64)=((x2*256:Nat):Int):=by rw[w64 (n:=(x2:Int)) om om,show(2:Int)^min 8 64=256 by decide,w64 om om];omega
 have e3:IntKind.i64.wrap (x3:Int)=(x3:Int):=w64 om om;rw[e0,e1,e2,e3];obtain⟨h1,h2⟩:=or_nat (x:=x0*16777216) (y:=x1*65536) om om;obtain⟨h3,h4⟩:=or_nat (x:=x0*16777216 ||| x1*65536) (y:=x2*256) h2 om;obtain⟨h5,h6⟩:=or_nat (x:=x0*16777216 ||| x1*65536 ||| x2*256) (y:=x3) h4 om;rw[h1,h3,h5];exact⟨rfl,h6⟩
def rfN(b:List UInt8)(N:Nat):List UInt8×Int×Int:=
 if b.length<8 then([],0,10)
 else if ((b.drop 4).take 4==lowB (sumF [b.take 4]))=false then([],0,12)
 else if 1048576<N then([],0,13)
 else if b.length-8<N+4 then([],0,10)
 else if ((b.drop (8+N)).take 4==lowB (sumF [(b.drop 8).take (N)]))=false then([],0,12)
 else((b.drop 8).take (N),((8+N+4:Nat):Int),0)
def rfQ(b:List UInt8):List UInt8×Int×Int:=rfN b (hd4 b)
theorem NQj1.eqs{P Q:Prop}(g:Imp P Q:=by(try simp only[go_sem,seval,qb]);exact Imp.rf):Imp P Q:=g
set_option maxHeartbeats 1600000 in
open NQj1 NY in
theorem Mh(b:List UInt8)(hb9:b.length≤1099511627776){H:Heap}{n:Nat}(hG:GOK 1 1 H n):Ret prog 92 [bys b,.int .i64 0] H n (.tup [bys (rfQ b).1,.int .i64 (rfQ b).2.1,.int .i64 (rfQ b).2.2]) H n:=by
 obtain⟨N,hNd⟩:∃N,N=hd4 b:=⟨_,rfl⟩;obtain⟨hNi,hN⟩:=hd4_int b;rw[←hNd]at hNi hN;have hrf:rfQ b=rfN b N:=by rw[hNd];unfold rfQ;rfl
 rw[hrf];clear hrf hNd;have k1:IntKind.i64.wrap 1=1:=odc;have k2:IntKind.i64.wrap 2=2:=odc;have k3:IntKind.i64.wrap 3=3:=odc;have k4:IntKind.i64.wrap 4=4:=odc;have k8:IntKind.i64.wrap 8=8:=odc;have m1:(1:Int).toNat=1:=rfl;have m2:(2:Int).toNat=2:=rfl;have m3:(3:Int).toNat=3:=rfl;have m4:(4:Int).toNat=4:=rfl;refine Ret.fin ?_;refine fw func92 ntmps92 results92 ?_;refine kb1 ?_;refine bk fun K1 hK1=> ?_;refine rc zs [0,1,9] func130 ((V4 b 0 _ _)) ?_;refine Zb ?_ ?_<;>intro hb
 ·exact absurd (of_decide_eq_true hb) om
 refine rg zs [0,1,13] ?_;refine Zb ?_ ?_<;>intro hb
 ·have h8:b.length<8:=by have:=of_decide_eq_true hb;rw[w64 om om]at this;omega
  have hw:rfN b N=([],0,10):=by unfold rfN;rw[if_pos h8]
  exact kaf
 have h8:8≤b.length:=by have:=of_decide_eq_false hb;rw[w64 om om]at this;omega
 have e2:List.take 4 (b.map Zd)=(b.take 4).map Zd:=by rw[List.map_take]
 have n0:nth (b.map Zd) 0=Zd (b.getD 0 0):=Zr Zd b _ om;have n1:nth (b.map Zd) 1=Zd (b.getD 1 0):=Zr Zd b _ om;have n2:nth (b.map Zd) 2=Zd (b.getD 2 0):=Zr Zd b _ om;have n3:nth (b.map Zd) 3=Zd (b.getD 3 0):=Zr Zd b _ om;refine Zg zs [0,1,19] fun K V=> ?_;refine kbP ?_
 repeat (first | (refine And.intro ?_ ?_;· first | exact⟨om,fun m h=>h.elim⟩ | exact⟨rfl,by simp[AV.sz,AV.memOK]⟩) | refine peel ?_)
 refine Zu func86 rfl rfl rfl ((V5 [b.take 4] osi (fun x hx=>by rw[List.mem_singleton.1 hx,qk];omega) hG)) ?_;refine kbP ?_
 repeat refine peel ?_
 refine Zu func131 rfl rfl rfl ((c_wire_is b 4 (sumF [b.take 4]) om hb9 _ _)) ?_;refine kbP ?_;refine kad ?_;refine Zb ?_ ?_<;>intro hb
 ·have hw:rfN b N=([],0,12):=by unfold rfN;rw[if_neg om,if_pos osb]
  exact kaf
 have hs1:((b.drop 4).take 4==lowB (sumF [b.take 4]))=true:=osb;refine kay ?_;refine Y0 rfl zs [0,1,7] [.m,.m,.q,.q,.q,.q,.m,.m,.q,.q,.q,.q,.q,.q,.m,.m,.q,.q,.q,.q,.q,.q,.m,.m,.q,.q,.q,.q,.q,.q] [0,1,2,3,4,5,6,7,8,9,10,11,12,13,14,15,16,17,18,19,20,21,22,23,24,25,26,27,28,29] [0,1,2,3,4,5,6,7,8,9,10,11,12,13,14,15,16,17,18,19,20,21,22,23,24,25,26,27,28,29] (by kernel_rfl) (fun _ _ _ _ _ h=>h) fun K V=> ?_
 try simp only[go_sem,seval,qb,hNi,n0,n1,n2,n3,k1,k2,k3,k4,m1,m2,m3,m4,k8]
 refine kad ?_;refine Zg zs [0,1,7] fun K V=> ?_
 try simp only[go_sem,seval,qb,k8]
 refine kad ?_;refine bk fun K2 hK2=> ?_;refine rg zs [0,1,7,63] ?_;refine Zb ?_ ?_<;>intro hb
 ·have hw:rfN b N=([],0,13):=by unfold rfN;rw[if_neg om,if_neg (by rw[hs1];simp),if_pos ott]
  exact kaf
 have hN2:¬1048576<N:=otf;have j1:IntKind.i64.wrap ((b.length:Int)-8)=((b.length-8:Nat):Int):=by rw[w64 om om];omega
 have j2:IntKind.i64.wrap ((N:Int)+4)=((N+4:Nat):Int):=by rw[w64 om om];omega
 have j3:IntKind.i64.wrap (8+(N:Int))=((8+N:Nat):Int):=by rw[w64 om om];omega
 have j4:IntKind.i64.wrap (((8+N:Nat):Int)+4)=((8+N+4:Nat):Int):=by rw[w64 om om];omega
 refine Zg zs [0,1,7,66] fun K V=> ?_
 try simp only[go_sem,seval,qb,j1,j2]
 refine kad ?_;refine Zb ?_ ?_<;>intro hb
 ·have hw:rfN b N=([],0,10):=by unfold rfN;rw[if_neg om,if_neg (by rw[hs1];simp),if_neg hN2,if_pos ott]
  exact kaf
 have hL:¬b.length-8<N+4:=otf;have m8:(8:Int).toNat=8:=rfl;have e5:List.drop 8 (List.take (8+N) (b.map Zd))=((b.drop 8).take (N)).map Zd:=by rw[List.take_add,List.drop_append_of_le_length oz,List.drop_take_self,List.nil_append,←List.map_drop,←List.map_take]
 refine kaQ ?_;refine Zg zs [0,1,7,8] fun K V=> ?_
 try simp only[go_sem,seval,qb,j3,m8,e5,Option.getD_some,qd]
 repeat (first | (refine And.intro ?_ ?_;· first | exact⟨om,om,fun m h=>h.elim⟩) | refine peel ?_)
 refine kas ?_;refine Za fun K3 hK3=> ?_;refine Zg zs [1,7,8,88] fun K V=> ?_
 try simp only[go_sem,seval,qb,j3]
 repeat (first | (refine And.intro ?_ ?_;· first | exact⟨rfl,by simp[AV.sz,AV.memOK]⟩) | refine peel ?_)
 refine Zu func86 rfl rfl rfl ((V5 [(b.drop 8).take (N)] osi (fun x hx=>by rw[List.mem_singleton.1 hx,qk];omega) hG)) ?_
 try simp only[go_sem,seval,qb,j3]
 repeat refine peel ?_
 refine Zu func131 rfl rfl rfl ((c_wire_is b (8+N) (sumF [(b.drop 8).take (N)]) om hb9 _ _)) ?_
 try simp only[go_sem,seval,qb,j3]
 refine kad ?_;refine Zb ?_ ?_<;>intro hb
 ·have hw:rfN b N=([],0,12):=by unfold rfN;rw[if_neg om,if_neg (by rw[hs1];simp),if_neg hN2,if_neg hL,if_pos osb]
  exact kaf
 have hw:rfN b N=((b.drop 8).take (N),((8+N+4:Nat):Int),0):=by unfold rfN;rw[if_neg om,if_neg (by rw[hs1];simp),if_neg hN2,if_neg hL,if_neg (by rw[show((b.drop (8+N)).take 4==lowB (sumF [(b.drop 8).take (N)]))=true by simpa using hb];simp)]
 refine kba ?_;refine Zg zs [4,5,6] fun K V=> ?_
 try simp only[go_sem,seval,qb,j3,j4]
 repeat refine peel ?_
 refine Zu func53 rfl rfl rfl ((c_bytes_Clone ((b.drop 8).take (N)) (by rw[qk];omega) _ _)) ?_
 try simp only[go_sem,seval,qb,j3,j4]
 refine kad ?_;refine ar ?_;rw[hw];exact⟨_,rfl,.kl ⟨Z4 _ _,trivial,trivial,trivial⟩⟩
def YU(q:QryE):List UInt8:=[if q.rev then 1 else 0]++Zo q.frm++Zo q.to++Zi (u64 q.fams.length)++(q.fams.flatMap fun f=>Zi (u64 f))++Zo q.pre++Zi (u64 q.time)++Zi (u64 q.n)++Zo q.whr
structure WF(q:QryE)(H:Heap)(n ver M:Nat)(bs:List UInt8)(H':Heap)(n':Nat):Prop where
 q:H' n=some (.arr 0 10 [Ze q])
 b:H' (n+1)=some (.arr ver 1 (bs.map Zd))
 low:∀k,k<n→H' k=H k
 lt:n+2≤n'
 le:bs.length≤M
theorem WF.app{q : QryE}{H : Heap}{n ver M : Nat}{bs : List UInt8}{H1 : Heap}{m : Nat}(h : WF q H n ver M bs H1 m)(ys : List UInt8){X : Option AObj}{zs : List AV}(hz : zs = ys.map Zd){m' K : Nat}(hm : m ≤ m')(V : M + ys.length ≤ K):
   WF q H n (ver+1) K (bs++ys) ((H1.put m X).put (n+1) (some (.arr (ver+1) 1 (bs.map Zd++zs)))) m' where
 q:=by rw[Rk _ _ om,Rk _ _ (by have:=h.lt;omega)];exact h.q
 b:=by rw[Rm,qj,hz]
 low:=fun k hk=>by rw[Rk _ _ om,Rk _ _ (by have:=h.lt;omega)];exact h.low k hk
 lt:=by have:=h.lt;omega
 le:=by have:=h.le;rw[qe];omega
theorem Yr(b:List UInt8):List.take b.length (List.map Zd b)=List.map Zd b:=List.take_of_length_le osi
theorem NQk0.eqs{P Q:Prop}(g:Imp P Q:=by(try simp only[go_sem,seval,hsz,Ze,Zx,bys,qb,f1,f2,hQ,hB,g1,g2,hnth,hx,Yr,Ya,qd]);exact Imp.rf):Imp P Q:=g
theorem NQk0.sd{P:Prop}(g:P:=by first | exact⟨Nat.le_refl _,Nat.le_refl _,.inr trivial,om,om⟩ | exact⟨om,om⟩ | fail):P:=g
set_option maxHeartbeats 3200000 in
open NQk0 NZ in
theorem c_query_form(q:QryE)(h1:q.frm.length≤1048576)(h2:q.to.length≤1048576)(h3:q.fams.length≤1048576)(h4:q.pre.length≤1048576)(h5:q.whr.length≤1048576)(H:Heap)(n:Nat):Ret prog 87 [Ze q] H n (bys (YU q)) H n:=by
 have hsz:(Ze q).sz=10:=ZT q;have hQ:=hsz;have hB:=hsz;have g1:=hsz;have g2:=hsz;have hnth:=hsz;have hx:=hsz;have f1:(n=n+1)=False:=osi;have f2:(n+1=n)=False:=osi;refine Ret.fin ?_;refine fw func87 ntmps87 results87 ?_;refine rg zs [1] ?_;refine rg zo [1,3] ?_;refine ZL [1,3] (fun T' H' n'=>T'=tl [(1,.loc n 0 0 0 []),(3,.osl (n+1) 0 0 1)]∧WF q H n 0 1 [if q.rev then 1 else 0] H' n') ?_ ?_
 ·refine rg zs [1,3,8] ?_;refine Zb ?_ ?_<;>intro hb
  ·refine rg1 zs [1,3] ?_;exact kaC
  refine ak ?_;exact kaC
 rintro T1 H1 m ⟨rfl,hS⟩;obtain⟨b0,hb0⟩:∃b,b=[if q.rev then(1:UInt8)else 0]:=⟨_,rfl⟩;rw[←hb0]at hS;have hb1:b0.length=1:=by rw[hb0];rfl
 rw[show AV.osl (n+1) 0 0 1=AV.osl (n+1) 0 0 b0.length by rw[hb1]];have hQ:=hS.q;have hB:=hS.b;have hl:=hS.lt;have hle:=hS.le;have g1:(n+1=m)=False:=oz;have g2:(n=m)=False:=oz;have hy:=Zp (v:=q.frm.length) om;have hz:(Zo q.frm).length=(Zi q.frm.length).length+q.frm.length:=by simp[Zo]
 refine rk zs [1,3] fun K V=> ?_;refine ck func84 ((Wv q.frm om _ _)) ?_;refine kas ?_;refine ZG (fun H' n'=>WF q H n (0+1) 1048600 (b0++Zo q.frm) H' n') (hS.app (Zo q.frm) rfl om om) fun H1 m hS=> ?_;refine kbS ?_;obtain⟨c1,hc1⟩:∃b,b=b0++Zo q.frm:=⟨_,rfl⟩;rw[←hc1]at hS ⊢;have hQ:=hS.q;have hB:=hS.b;have hl:=hS.lt;have hle:=hS.le;have g1:(n+1=m)=False:=oz;have g2:(n=m)=False:=oz;have hy:=Zp (v:=q.to.length) om;have hz:(Zo q.to).length=(Zi q.to.length).length+q.to.length:=by simp[Zo]
 refine rk zs [1,3] fun K V=> ?_;refine ck func84 ((Wv q.to om _ _)) ?_;refine kas ?_;refine ZG (fun H' n'=>WF q H n (0+1+1) 2097200 (c1++Zo q.to) H' n') (hS.app (Zo q.to) rfl om om) fun H1 m hS=> ?_;refine kbS ?_;obtain⟨c2,hc2⟩:∃b,b=c1++Zo q.to:=⟨_,rfl⟩;rw[←hc2]at hS ⊢;have hQ:=hS.q;have hB:=hS.b;have hl:=hS.lt;have hle:=hS.le;have g1:(n+1=m)=False:=oz;have g2:(n=m)=False:=oz;have hy:=Zp (Yc q.fams.length);refine rc zs [1,3] func83 ((XF (u64 q.fams.length) (Yc _) _ _)) ?_;refine Za fun K1 hK1=> ?_;refine ZG (fun H' n'=>WF q H n (0+1+1+1) 3000000 (c2++Zi (u64 q.fams.length)) H' n') (hS.app (Zi (u64 q.fams.length)) rfl om om) fun H1 m hS=> ?_;refine kbS ?_;obtain⟨c3,hc3⟩:∃b,b=c2++Zi (u64 q.fams.length):=⟨_,rfl⟩;rw[←hc3]at hS ⊢;have hQ:=hS.q;have hB:=hS.b;have hl:=hS.lt;have hle:=hS.le;have g1:(n+1=m)=False:=oz;have g2:(n=m)=False:=oz;refine rg zs [1,3,29,30,31] ?_;refine kbM ?_;refine Zk (fun T' H' n'=>∃i:Nat,i≤q.fams.length∧T'=tl [(1,.loc n 0 0 0 []),(3,.osl (n+1) (3+i) 0 (c3++(q.fams.take i).flatMap (fun f=>Zi (u64 f))).length),(29,Zx q.fams),(30,.int .i64 q.fams.length),(31,.int .i64 i)]∧WF q H n (3+i) (3000000+10*i) (c3++(q.fams.take i).flatMap (fun f=>Zi (u64 f))) H' n') (fun T' _ _=>q.fams.length-iv (T' 31)) ?_ ?_
 ·exact⟨0,Nat.zero_le _,by simp[Zx],by simpa using hS⟩
 rintro T1 H1 n1 ⟨i,hi,rfl,hS⟩;obtain⟨m,hm⟩:∃m,m=n1:=⟨_,rfl⟩;subst hm;refine rg zs [1,3,29,30,31,32] ?_;refine Za fun K2 hK2=> ?_;refine Zb ?_ ?_<;>intro hb
 ·have hlt:i<q.fams.length:=ott;have hx:IntKind.i64.wrap ((i:Int)+1)=((i+1:Nat):Int):=w1 om;have hnth:nth (q.fams.map fun n=>AV.int .i64 n) i=AV.int .i64 (q.fams.getD i 0):=Zr (fun n=>AV.int .i64 n) q.fams _ hlt;have hy:=Zp (Yc (q.fams.getD i 0));have hts:(q.fams.take (i+1)).flatMap (fun f=>Zi (u64 f))=(q.fams.take i).flatMap (fun f=>Zi (u64 f))++Zi (u64 (q.fams.getD i 0)):=by rw[List.take_succ_eq_append_getElem hlt,List.flatMap_append];simp[List.getD,hlt]
  obtain⟨d,hd⟩:∃d,d=c3++(q.fams.take i).flatMap (fun f=>Zi (u64 f)):=⟨_,rfl⟩;rw[←hd]at hS ⊢;have hQ:=hS.q;have hB:=hS.b;have hl:=hS.lt;have hle:=hS.le;have g1:(n+1=m)=False:=oz;have g2:(n=m)=False:=oz;refine kaQ ?_;refine bk fun K3 hK3=> ?_;refine rg zs [1,3,5,29,30,31] ?_;refine rc1 zs [1,3,29,30,31] func83 ((XF (u64 (q.fams.getD i 0)) (Yc _) _ _)) ?_;apply hK3;refine rg1 zs [1,3,29,30,31] ?_;exact kbf
 have hge:i=q.fams.length:=otf;have htk:q.fams.take i=q.fams:=List.take_of_length_le om;subst hge;obtain⟨c4,hc4⟩:∃d,d=c3++(q.fams.take q.fams.length).flatMap (fun f=>Zi (u64 f)):=⟨_,rfl⟩;rw[←hc4]at hS ⊢;have hQ:=hS.q;have hB:=hS.b;have hl:=hS.lt;have hle:=hS.le;have g1:(n+1=m)=False:=oz;have g2:(n=m)=False:=oz;have hy:=Zp (v:=q.pre.length) om;have hz:(Zo q.pre).length=(Zi q.pre.length).length+q.pre.length:=by simp[Zo]
 refine ax ?_;apply hK1;refine rk zs [1,3] fun K V=> ?_;refine ck func84 ((Wv q.pre om _ _)) ?_;refine kas ?_;refine ZG (fun H' n'=>WF q H n (3+q.fams.length+1) 16000000 (c4++Zo q.pre) H' n') (hS.app (Zo q.pre) rfl om om) fun H1 m hS=> ?_;refine kbS ?_;obtain⟨c5,hc5⟩:∃b,b=c4++Zo q.pre:=⟨_,rfl⟩;rw[←hc5]at hS ⊢;have hQ:=hS.q;have hB:=hS.b;have hl:=hS.lt;have hle:=hS.le;have g1:(n+1=m)=False:=oz;have g2:(n=m)=False:=oz;have hy:=Zp (Yc q.time);refine rc zs [1,3] func83 ((XF (u64 q.time) (Yc _) _ _)) ?_;refine ZG (fun H' n'=>WF q H n (3+q.fams.length+1+1) 16000010 (c5++Zi (u64 q.time)) H' n') (hS.app (Zi (u64 q.time)) rfl om om) fun H1 m hS=> ?_;refine kbS ?_;obtain⟨c6,hc6⟩:∃b,b=c5++Zi (u64 q.time):=⟨_,rfl⟩;rw[←hc6]at hS ⊢;have hQ:=hS.q;have hB:=hS.b;have hl:=hS.lt;have hle:=hS.le;have g1:(n+1=m)=False:=oz;have g2:(n=m)=False:=oz;have hy:=Zp (Yc q.n);refine rc zs [1,3] func83 ((XF (u64 q.n) (Yc _) _ _)) ?_;refine ZG (fun H' n'=>WF q H n (3+q.fams.length+1+1+1) 16000020 (c6++Zi (u64 q.n)) H' n') (hS.app (Zi (u64 q.n)) rfl om om) fun H1 m hS=> ?_;refine kbS ?_;obtain⟨c7,hc7⟩:∃b,b=c6++Zi (u64 q.n):=⟨_,rfl⟩;rw[←hc7]at hS ⊢;have hQ:=hS.q;have hB:=hS.b;have hl:=hS.lt;have hle:=hS.le;have g1:(n+1=m)=False:=oz;have g2:(n=m)=False:=oz;have hy:=Zp (v:=q.whr.length) om;have hz:(Zo q.whr).length=(Zi q.whr.length).length+q.whr.length:=by simp[Zo]
 refine rk zs [2] fun K V=> ?_;refine ck func84 ((Wv q.whr om _ _)) ?_;refine kas ?_;exact kaG
def tokB(q:QryE)(time:Int)(row:List UInt8):List UInt8:=Yd (Zi (u64 time)++Zo row++Zi (u64 (sumF [YU q])))
theorem fz_bys{k ver:Nat}(b:List UInt8):FzV k ver 1 (b.map Zd) (.osl k ver 0 b.length) (bys b):=by
 have h:=FzV.osl (k:=k) (ver:=ver) (e:=1) (els:=b.map Zd) (off:=0) (len:=b.length) osi
 rwa [List.drop_zero,List.take_of_length_le osi]at h
theorem formB_len{q:QryE}(h:q.fine):(YU q).length≤20000000:=by
 have h1:=Zp (v:=q.frm.length) (by have:=h.frm;omega);have h2:=Zp (v:=q.to.length) (by have:=h.to;omega);have h3:=Zp (Yc q.fams.length);have h4:=Zp (v:=q.pre.length) (by have:=h.pre;omega);have h5:=Zp (Yc q.time);have h6:=Zp (Yc q.n);have h7:=Zp (v:=q.whr.length) (by have:=h.whr;omega);have h8:∀l:List Int,(l.flatMap fun f=>Zi (u64 f)).length≤10*l.length:=fun l=>by
   induction l with
   | nil=>simp
   | cons a l ih=>have:=Zp (Yc a);rw[List.flatMap_cons,qe,qi];omega
 have h9:=h8 q.fams;have:=h.frm;have:=h.to;have:=h.fams;have:=h.pre;have:=h.whr
 unfold YU Zo;simp only[qe,qi,List.length_nil];omega
theorem NQk1.eqs{P Q:Prop}(g:Imp P Q:=by(try simp only[go_sem,seval,hsz,hag,hmo,hs,f1,f2,f3,f4,f5,f6,g1,r1,r2,Yr,Ya,qb]);exact Imp.rf):Imp P Q:=g
theorem NQk1.sd{P:Prop}(g:P:=by first | exact⟨Nat.le_refl _,Nat.le_refl _,.inr trivial,om,om⟩ | fail):P:=g
open NQk1 NZ in
theorem Vy(q:QryE)(hq:q.fine)(time:Int)(row:List UInt8)(hr:row.length≤256){H:Heap}{n:Nat}(hG:GOK 1 1 H n):Zn prog 56 [.agg [.int .i64 time,bys row],Ze q] H n (OAns H n (bys (tokB q time row))):=by
 have hsz:(Ze q).sz=10:=ZT q;have hag:(Ze q).isAgg=true:=rfl;have hmo:(Ze q).memOK=true:=rfl;have hG0:=hG;have r1:=hsz;have r2:=hsz;have g1:=hsz;have hy:=Zp (v:=row.length) om;have hz:(Zo row).length=(Zi row.length).length+row.length:=by simp[Zo]
 have hy2:=Zp (Yc time);have hy3:=Zp (Yc (sumF [YU q]));have f1:(n=n+1)=False:=osi;have f2:(n+1=n)=False:=osi;have f3:(n+1=n+2)=False:=osi;have f4:(n=n+2)=False:=osi;have f5:(n+2=n+2+1)=False:=osi;have f6:(n+2+1=n+2)=False:=osi;have hs:=hsz;refine fw func56 ntmps56 results56 ?_;refine rg zs [2,3] ?_;refine dx zs [3,5] [.q,.q,.q,.w [4,5],.q,.q,.w [],.w [],.q] [0,1,2,4,5,3,6,7,8] [0,1,2,5,3,4,6,7,8] fun K V=> ?_;refine ck func83 ((XF (u64 time) (Yc _) _ _)) ?_;refine ck func84 ((Wv row om _ _)) ?_;refine kas ?_;refine ZG (fun H' n'=>H' (n+1)=some (.arr 0 10 [Ze q])∧H' (n+2)=some (.arr ((Zi (u64 time)).length+1) 1 ((Zi (u64 time)++Zo row).map Zd))∧GOK 1 1 H' n'∧(∀k,k<n→H' k=H k)∧n+4≤n') ⟨by(try simp only[Rl]);simp,by rw[Rm,qj],hG0.on (fun k hk=>oh) om,fun k hk=>oh,om⟩ fun H1 m ⟨r1,r2,hG,hl1,hm⟩=> ?_;refine kbS ?_;have g1:(n+2=m)=False:=oz;have hbl:(Zi (u64 time)++Zo row).length≤300:=by rw[qe];omega
 have e9:List.take (Zi (u64 time)++Zo row).length (List.map Zd (Zi (u64 time)++Zo row))=List.map Zd (Zi (u64 time)++Zo row):=Yr _;have hs:=e9;refine Zg zs [6] fun K V=> ?_;refine kaD ?_
 repeat refine peel ?_
 refine Zu func87 rfl rfl rfl ((c_query_form q hq.frm hq.to hq.fams hq.pre hq.whr _ _)) ?_;refine kaD ?_
 repeat (first | (refine And.intro ?_ ?_;· first | exact⟨rfl,by simp[AV.sz,AV.memOK]⟩) | refine peel ?_)
 refine Zu func86 rfl rfl rfl ((V5 [YU q] osi (fun x hx=>by rw[List.mem_singleton.1 hx];have:=formB_len hq;omega) hG)) ?_;refine kaD ?_
 repeat refine peel ?_
 refine Zu func83 rfl rfl rfl ((XF (u64 (sumF [YU q])) (Yc _) _ _)) ?_;refine kaD ?_
 repeat (first | (refine And.intro ?_ ?_;· first | exact⟨Nat.le_refl _,Nat.le_refl _,.inr trivial,om,om⟩) | refine peel ?_)
 rw[←qe,←qj];refine Zw (args':=[.osl (n+2) ((Zi (u64 time)).length+2) 0 (Zi (u64 time)++Zo row++Zi (u64 (sumF [YU q]))).length]) func85 rfl rfl rfl (OAns.lend (H0:=HQ) (VW (hG0.on (fun k hk=>ohx (hl1 k hk)) (Nat.le_refl _))) (.cons (.osl (Rm _ _ _) (Nat.zero_le _) osi (by rw[List.drop_zero,List.take_of_length_le osi];exact XM _ (Z4 (Zi (u64 time)++Zo row++Zi (u64 (sumF [YU q]))) 0))) .nil) (o_wire_Frame (Zi (u64 time)++Zo row++Zi (u64 (sumF [YU q]))) (by rw[qe];omega) (Kk (by have:=hG0.gek;omega) (by have:=hG0.get;omega)))) ?_ ?_
 rotate_left
 ·intro p H' n' hc;exact hc.pan.elim
 intro rr H2 n2 hc;obtain⟨ks,hM⟩:=hc.got;obtain⟨a,rfl,ho⟩:=hM.own.tupI_shape;have hs:=fun g=>ho.strip g;refine kaD ?_;refine kad ?_;refine kag ?_;refine⟨_,ks,rfl,ho,hM.nd,fun k hk=>by have:=hM.lo k hk;omega,fun k hk=>(hM.low k om).trans ?_,by have:=hM.nn;omega⟩;refine ohx ?_;exact hl1 k hk
end Go.Proofs.YtkmkbndcekklmaaGreatDoor
namespace Go.Rt
open Go Go.Sx
theorem schemaE_le{s:List Fml}(h:Zy s=0):s.length≤8:=by
 unfold Zy at h;split at h
 ·cases h
 ·rename_i hb;simp[bout]at hb;omega
theorem checkC_parts{qc : Int}{s : List Fml}{c : CmdE}(h : checkC qc s c = 0):
   Zy s=0∧bout c.kind 1 7=false∧cb3 c=false∧cb4 c=false∧cb5 c=false∧cb6 s.length c=false∧cb7 c=false∧cb8 s.length c=false∧cb9 c=false∧(W9 c.kind=true→qc=0)∧(W9 c.kind=false→c.q=zq)∧(cmdB c).length≤98304:=by
 have t:tailC c=0→(cmdB c).length≤98304:=fun hx=>by
   unfold tailC at hx;split at hx
   ·cases hx
   ·rename_i h;simp at h;omega
 unfold checkC at h;split at h
 ·exact absurd h odc
 rename_i h0;split at h
 ·exact absurd h odc
 rename_i h1;split at h
 ·exact absurd h odc
 rename_i h2;split at h
 ·exact absurd h odc
 rename_i h3;split at h
 ·exact absurd h odc
 rename_i h4;split at h
 ·exact absurd h odc
 rename_i h5;split at h
 ·exact absurd h odc
 rename_i h6;split at h
 ·exact absurd h odc
 rename_i h7;split at h
 ·exact absurd h odc
 rename_i h8;refine⟨by simpa using h0,by simpa using h1,by simpa using h2,by simpa using h3,by simpa using h4,by simpa using h5,by simpa using h6,by simpa using h7,by simpa using h8,?_⟩;split at h
 ·rename_i hk;split at h
  ·rename_i hq;simp[h]at hq
  ·rename_i hq;exact⟨fun _=>by simpa using hq,fun e=>(by rw[hk]at e;cases e),t h⟩
 ·rename_i hk;split at h
  ·exact absurd h odc
  ·rename_i hq;exact⟨fun e=>absurd e hk,fun _=>by simpa using hq,t h⟩
theorem condOK_rds{nf:Nat}(hn:nf≤8){x:Ri}(h:condOK nf x=true):Rds NL (V3 x) x:=by
 unfold condOK at h;simp[bout]at h;exact rds_cond om om om om
theorem opOK_rds{nf:Nat}(hn:nf≤8){x:OpE}(hd: -9223372036854775808≤x.delta∧x.delta<9223372036854775808)(h:opOK nf x=true):Rds rdOp (opB x) x:=by
 unfold opOK at h;simp[bout]at h;exact rds_op om om om om om hd
theorem condB_pos(x:Ri):1≤(V3 x).length:=by simp[V3]
theorem opB_pos(x:OpE):1≤(opB x).length:=by simp[opB]
theorem rdCmd_B{c : CmdE}{b v : List UInt8}(hb : b = cmdB c ++ v)(hk : 1 ≤ c.kind ∧ c.kind ≤ 7)
   (h2:3≤c.kind→(0≤c.client∧c.client<9223372036854775808)∧0≤c.serial∧c.serial<9223372036854775808) (h2':¬3≤c.kind→c.client=0∧c.serial=0)
   (h3:c.kind=4→c.row.length<9223372036854775808∧(∀x∈c.conds,Rds NL (V3 x) x)∧(∀x∈c.ops,Rds rdOp (opB x) x)∧c.conds.length<9223372036854775808∧c.ops.length<9223372036854775808) (h3':c.kind≠4→c.row=[]∧c.conds=[]∧c.ops=[])
   (h4:c.kind=5∨c.kind=6→0≤c.n∧c.n<9223372036854775808) (h4':¬(c.kind=5∨c.kind=6)→c.n=0)
   (h5:c.kind=7→Rds rdQry (qryB c.q) c.q) (h5':c.kind≠7→c.q=zq):
   rdCmd b=if (cmdB c).length=b.length then some c else none:=by
 obtain⟨k,cl,se,row,cds,ops,m,q⟩:=c;simp only at*
 have hd0 : b.drop 0 = [Yb k] ++ ((if 3 ≤ k then Zi (u64 cl) ++ Zi (u64 se) else []) ++ ((if k = 4 then Zo row ++ Zi cds.length ++ cds.flatMap V3 ++ Zi ops.length ++ ops.flatMap opB
    else if k=5∨k=6 then Zi (u64 m)else if k=7 then qryB q else[])++v)):=by
   rw[List.drop_zero,hb];simp only[cmdB,List.cons_append,qf,List.nil_append]
 have r1:=UU (n:=k) om om b 0 _ (Nat.zero_le _) hd0;obtain⟨l1,d1⟩:=dadv (Nat.zero_le _) hd0;have s1:rs1 b 0=some ({zc with kind:=k},0+[Yb k].length):=by
   have hbo:bout k 1 7=false:=by simp[bout];omega
   rw[rs1,r1,Option.bind_some];simp only[hbo,Bool.false_eq_true,↓reduceIte]
 have s2:rs2 b {zc with kind:=k} (0+[Yb k].length)=some ({zc with kind:=k,client:=cl,serial:=se},0+[Yb k].length+(if 3≤k then Zi (u64 cl)++Zi (u64 se)else[]).length):=by
   by_cases h:3≤k
   ·have hkk:(XL k||Q7 k)=true:=by simp[XL,Q7];omega
    rw[if_pos h]at d1 ⊢;rw[qf]at d1;have ra:=Uk (h2 h).1.1 (h2 h).1.2 b _ _ l1 d1;obtain⟨la,da⟩:=dadv l1 d1;have rb:=Uk (h2 h).2.1 (h2 h).2.2 b _ _ la da;simp only[rs2,hkk,↓reduceIte,ra,rb,Option.bind_some];simp only[qe,qg]
   ·have hkk:(XL k||Q7 k)=false:=by simp[XL,Q7];omega
    obtain⟨rfl,rfl⟩:=h2' h;rw[if_neg h];simp only[rs2,hkk,Bool.false_eq_true,↓reduceIte,List.length_nil,Nat.add_zero];rfl
 obtain⟨l2,d2⟩:=dadv l1 d1
 have hlen : (cmdB ⟨k, cl, se, row, cds, ops, m, q⟩).length = 0 + [Yb k].length + (if 3 ≤ k then Zi (u64 cl) ++ Zi (u64 se) else []).length + (if k = 4 then Zo row ++ Zi cds.length ++ cds.flatMap V3 ++ Zi ops.length ++ ops.flatMap opB
    else if k=5∨k=6 then Zi (u64 m)else if k=7 then qryB q else[]).length:=by
   simp only[cmdB,qi,qe,List.length_nil];omega
 generalize hp2:0+[Yb k].length+(if 3≤k then Zi (u64 cl)++Zi (u64 se)else[]).length=p2 at*;have s3:rs3 b {zc with kind:=k,client:=cl,serial:=se} p2=some ({zc with kind:=k,client:=cl,serial:=se,row:=row,conds:=cds,ops:=ops},p2+(if k=4 then Zo row++Zi cds.length++cds.flatMap V3++Zi ops.length++ops.flatMap opB else[]).length):=by
   by_cases h:k=4
   ·have hkk:kOps k=true:=by simp[kOps,h]
    rw[if_pos h]at d2 ⊢;obtain⟨g1,g2,g3,g4,g5⟩:=h3 h;simp only[qf]at d2;have ra:=Xx g1 b _ _ l2 d2;obtain⟨la,da⟩:=dadv l2 d2;rw[←qf]at da;have rb:=NI g2 condB_pos g4 b _ _ la da;obtain⟨lb,db⟩:=dadv la da;rw[←qf]at db;have rc:=NI g3 opB_pos g5 b _ _ lb db;simp only[rs3,hkk,↓reduceIte,ra,rb,rc,Option.bind_some];simp only[qe,qg]
   ·have hkk:kOps k=false:=by simp[kOps,h]
    obtain⟨rfl,rfl,rfl⟩:=h3' h;rw[if_neg h];simp only[rs3,hkk,Bool.false_eq_true,↓reduceIte,List.length_nil,Nat.add_zero];rfl
 have s4:rs4 b {zc with kind:=k,client:=cl,serial:=se,row:=row,conds:=cds,ops:=ops} (p2+(if k=4 then Zo row++Zi cds.length++cds.flatMap V3++Zi ops.length++ops.flatMap opB else[]).length)=some ({zc with kind:=k,client:=cl,serial:=se,row:=row,conds:=cds,ops:=ops,n:=m},p2+(if k=4 then Zo row++Zi cds.length++cds.flatMap V3++Zi ops.length++ops.flatMap opB else if k=5∨k=6 then Zi (u64 m)else[]).length):=by
   by_cases h:k=5∨k=6
   ·have hkk:0≤VV k:=by rcases h with rfl | rfl<;>decide
    have h0:¬k=4:=om;rw[if_neg h0,if_pos h]at d2;rw[if_neg h0,if_neg h0,if_pos h];have ra:=Uk (h4 h).1 (h4 h).2 b _ _ l2 d2;simp only[rs4,hkk,↓reduceIte,List.length_nil,Nat.add_zero,ra,Option.bind_some]
   ·have hkk : ¬ 0 ≤ VV k := by
      unfold VV;rw[if_neg om,if_neg om,if_neg om];decide
    obtain rfl:=h4' h;rw[if_neg h];simp only[rs4,hkk,↓reduceIte];rfl
 have s5 : rs5 b { zc with kind := k, client := cl, serial := se, row := row, conds := cds, ops := ops, n := m } (p2 + (if k = 4 then Zo row ++ Zi cds.length ++ cds.flatMap V3 ++ Zi ops.length ++ ops.flatMap opB else if k = 5 ∨ k = 6 then Zi (u64 m) else []).length) = some (⟨k, cl, se, row, cds, ops, m, q⟩, p2 + (if k = 4 then Zo row ++ Zi cds.length ++ cds.flatMap V3 ++ Zi ops.length ++ ops.flatMap opB
    else if k=5∨k=6 then Zi (u64 m)else if k=7 then qryB q else[]).length):=by
   by_cases h:k=7
   ·have hkk:W9 k=true:=by simp[W9,h]
    have h0:¬k=4:=om;have h1:¬(k=5∨k=6):=om;rw[if_neg h0,if_neg h1,if_pos h]at d2;rw[if_neg h0,if_neg h1,if_neg h0,if_neg h1,if_pos h];have ra:=h5 h b _ _ l2 d2;simp only[rs5,hkk,↓reduceIte,List.length_nil,Nat.add_zero,ra,Option.bind_some]
   ·have hkk:W9 k=false:=by simp[W9,h]
    obtain rfl:=h5' h;rw[if_neg h];simp only[rs5,hkk,Bool.false_eq_true,↓reduceIte];rfl
 rw[hlen];simp only[rdCmd,s1,s2,s3,s4,s5,Option.bind_some]
structure Ls(qc:Int)(s:List Fml)(c:CmdE):Prop where
 ok:checkC qc s c=0
 fits:c.fits
 delta:∀o∈c.ops,-9223372036854775808≤o.delta∧o.delta<9223372036854775808
 nums:W9 c.kind=true→qc=0→c.q.nums
theorem Ls.rd{qc:Int}{s:List Fml}{c:CmdE}(h:Ls qc s c)(v:List UInt8):rdCmd (cmdB c++v)=if (cmdB c).length=(cmdB c++v).length then some c else none:=by
 obtain⟨p0,p1,p3,p4,p5,p6,p7,p8,p9,p10,p11,_⟩:=checkC_parts h.ok;have hs:=schemaE_le p0;simp only[bout,Bool.or_eq_false_iff,decide_eq_false_iff_not]at p1;have hf:=h.fits;refine rdCmd_B rfl om (fun h3=> ?_) (fun h3=> ?_) (fun h4=> ?_) (fun h4=> ?_) (fun h5=> ?_) (fun h5=> ?_) (fun h7=> ?_) (fun h7=> ?_)
 ·have e:(XL c.kind||Q7 c.kind)=true:=by simp[XL,Q7];omega
  have e2:(0:Int)≤(if XL c.kind then 1 else 0):=by split<;>decide
  simp[cb3,e,bout]at p3;simp[cb4,bout]at p4;omega
 ·have e:Q7 c.kind=false:=by simp[Q7];omega
  have e2:XL c.kind=false:=by simp[XL];omega
  simp only[cb3,e,e2,bout,Bool.or_self,Bool.false_eq_true,↓reduceIte,Bool.or_eq_false_iff,decide_eq_false_iff_not]at p3;have h1:c.client=0:=om;simp[cb4,bout,h1]at p4;exact⟨h1,by simpa using p4.2⟩
 ·have e:kOps c.kind=true:=by simp[kOps,h4]
  simp[cb6,e]at p6;simp[cb8]at p8;exact⟨by have:=hf.row;omega,fun x hx=>condOK_rds hs (p6.2 x hx),fun x hx=>opOK_rds hs (h.delta x hx) (p8 x hx),by have:=hf.conds;omega,by have:=hf.ops;omega⟩
 ·have e:kOps c.kind=false:=by simp[kOps,h4]
  simp[cb5,e]at p5;simp[cb6,e]at p6;simp[cb7,e]at p7;exact⟨p5,p6.1.1,p7⟩
 ·simp only[cb9]at p9;rcases h5 with e | e<;>(simp[e,VV,bout]at p9;omega)
 ·have e : VV c.kind < 0 := by
    unfold VV;rw[if_neg om,if_neg om,if_neg om];decide
  simp[cb9,e]at p9;exact p9.1
 ·have e:W9 c.kind=true:=by simp[W9,h7]
  exact rds_qry (h.nums e (p10 e)) hf.frm hf.to hf.fams hf.pre hf.whr hf.token
 ·exact p11 (by simp[W9,h7])
theorem Ls.pre{qc qc':Int}{s:List Fml}{c c':CmdE}(h:Ls qc s c)(h':Ls qc' s c'){v:List UInt8}(e:cmdB c=cmdB c'++v):c=c':=by
 have h1:=h.rd [];have h2:=h'.rd v;rw[List.append_nil,if_pos rfl,e]at h1;rw[h1]at h2;split at h2
 ·exact Option.some.inj h2
 ·cases h2
end Go.Rt