/- Own layer: the walk through a test of a condition. Of the program; no condition. -/
import Derived.Test.YtkmkbndcekklmaaGreatDoorPG
import Derived.Test.YtkmkbndcekklmaaGreatDoorPF
import Derived.Test.YtkmkbndcekklmaaGreatDoorPE
import Derived.Test.YtkmkbndcekklmaaGreatDoorPD
set_option linter.unusedSimpArgs false
set_option linter.unusedVariables false
set_option maxRecDepth 10000
namespace Go.Proofs.YtkmkbndcekklmaaGreatDoor
open Go Go.Sx Go.Rt Go.Proofs Tryz
def Yn:Tst→AV
 | .or a b=> .fn (.func 122) [] [.rp (Yn a),.rp (Yn b)]
 | .and a b=> .fn (.func 143) [] [.rp (Yn a),.rp (Yn b)]
 | .not a=> .fn (.func 154) [] [.rp (Yn a)]
 | .fam n sign=> .fn (.func 160) [] [.rp (.int .i64 n),.rp (.str sign)]
 | .cmp qual sign s=> .fn (.func 162) [] [.rp (.bool qual),.rp (.str sign),.rp (bys s)]
 | .ts sign n=> .fn (.func 164) [] [.rp (.str sign),.rp (.int .i64 n)]
theorem Xu(n:Nat):∀a:Tst,(Yn a).kl n
 | .or a b=>⟨trivial,Xu n a,Xu n b,trivial⟩
 | .and a b=>⟨trivial,Xu n a,Xu n b,trivial⟩
 | .not a=>⟨trivial,Xu n a,trivial⟩
 | .fam _ _=>⟨trivial,trivial,trivial,trivial⟩
 | .cmp _ _ s=>⟨trivial,trivial,trivial,Z4 _ _,trivial⟩
 | .ts _ _=>⟨trivial,trivial,trivial,trivial⟩
theorem Vj{H:Heap}{n k e:Nat}{a b:AV}(hk:H k=some (.arr 0 e [a]))(hn:n≤k)(hf:Frz H n a b):Frz H n (.loc k 0 0 0 []) (.rp b):= .loc hk hn osi (by simp[AV.pathOff]) trivial hf
theorem callQ_mkQ{P : Program}{f : FuncId}{fn : Func}{first captured args args' : List AV}{H : Heap}{r : AV}
   (hf:P.funcs[f]? =some fn) (hb:fn.body.isSome=true) (hn:(fn.name== "runtime.NumGoroutine")=false) (ha:first++args++captured=args') (h:∀n,Ret P f args' H n r H n):Jr P (.fn (.func f) first captured) args H r:=
 fun n=>Zu hf hb hn ha (h n) ⟨rfl,rfl,rfl⟩
theorem NQd0.eqs{P Q:Prop}(g:Imp P Q:=by(try simp only[go_sem,seval,hR1,hszs,hszb,wdAV,g1,g2,g3,g4,hB1,hB2]);exact Imp.rf):Imp P Q:=g
theorem NQd0.sd{P:Prop}(g:P:=by first | exact fun d hd=>by cases hd;exact callQ_mkQ func102 rfl rfl rfl (fun n=>UH fs _ hfs _ _) | fail):P:=g
set_option maxHeartbeats 1600000 in
open NQd0 NZ in
theorem c_query_test(fs : List Fml)(hfs : fs.length ≤ 1048576)(t : List UInt8)(s : Qst)(kr ko ver : Nat)(ht : t.length ≤ 512)(hI : QI t s)(H : Heap)(n : Nat)(h : QdH fs t kr ko s ver H n):
   Zn prog 155 [.loc kr 0 0 0 []] H n (QdK fs t kr ko H n ((JU fs t s).map fun x=>(Yn x.1,x.2))):=by
 have hR:=h.r;have hR1:=hR;unfold qdO at hR1;have hk:=h.lr;have hko:=h.lo;have hne:=h.ne;have hszs:(Zh fs).sz=1:=rfl;have hszb:∀b,(bys b).sz=1:=fun _=>rfl;have g1:(kr=n)=False:=oz;have g2:(kr=n+1)=False:=oz;have g3:(n=n+1)=False:=osi;have g4:(n+1=n)=False:=osi;have hB1:=hszs;have hB2:=hszs;obtain⟨r,hr⟩:∃r,r=((JU fs t s).map fun x=>(Yn x.1,x.2)):=⟨_,rfl⟩;rw[←hr];unfold JU at hr;refine QdK.fin hk hko hne ?_;refine fw func155 ntmps155 results155 ?_;refine rg zs [0] ?_;refine bk fun K1 hK1=> ?_;refine rc zs [0,10] func120 ((Xr fs t s kr ko ver wFam _ _ hR)) ?_;refine Zb ?_ ?_<;>intro hb
 ·simp only[if_pos hb]at hr;refine rk zs [0] fun K V=> ?_;refine Zw (args':=[.loc kr 0 0 0 []]) func121 rfl rfl rfl (YF fs t s kr ko ver ht hI.far (hI.outs ht) _ _ ?_) ?_ ?_
  ·exact h
  rotate_left
  ·rintro q9 H' n' hc;exact hc.up (fun p9 he=>by rw[Yv he]at hr;exact hr) om (fun k e1 e2 e3=>by rfl)
  rintro rr H1 n9 hc;obtain⟨_,v1,he,h1,rfl,hl1⟩:=hc.got om om hne;obtain⟨x1,hx1,hy⟩:=map_ok he;cases hy;have hI1:=(YQ ht hI (YV hb) (w:=x1.1) (s':=x1.2) hx1).1.1;simp only[hx1,ZY]at hr;have hR1:=h1.r;unfold qdO at hR1;refine nz ?_;apply V;clear V K;refine rk zs [0,3] fun K V=> ?_;refine Zw (args':=[.loc kr 0 0 0 [],.sl 1 (sEq.map .str)]) func159 rfl rfl rfl (Qv fs t x1.2 kr ko v1 ht hI1.far (hI1.outs ht) sEq odc _ _ ?_) ?_ ?_
  ·exact h1
  rotate_left
  ·rintro q9 H' n' hc;exact hc.up (fun p9 he=>by rw[Yv he]at hr;exact hr) om (fun k e1 e2 e3=>by exact hl1 k e2 e3)
  rintro rr H2 n9 hc;obtain⟨_,v2,he,h2,rfl,hl2⟩:=hc.got om om hne;obtain⟨x2,hx2,hy⟩:=map_ok he;cases hy;have hI2:=(QW ht hI1 (w:=x2.1) (s':=x2.2) hx2).1;simp only[hx2,ZY]at hr;have hR1:=h2.r;unfold qdO at hR1;refine nz ?_;apply V;clear V K;refine dx zs [0,3,4] [.m,.q,.q,.q,.m,.q,.q,.q,.q,.c,.w [1,2,3,5,6,7,8,9],.w []] [0,1,2,3,4,5,6,7,8,9,10,11] [0,1,2,3,4,5,6,7,8,9,10,11] fun K V=> ?_;refine cq func102 (fun _ n=>(UH fs x2.2.nxt.text hfs _ _)) ?_;apply V;clear V K;refine Za fun K2 hK2=> ?_;refine rg zs [0,3,4,37] ?_;refine Zb ?_ ?_<;>intro hb
  ·have hbad : x2.2.nxt.kind ≠ 1 ∨ famF fs x2.2.nxt.text < 0 := by
     unfold famF;by_cases e:x2.2.nxt.kind=1
     ·right;rw[e]at hb;exact of_decide_eq_true osb
     ·exact .inl e
   rw[if_pos hbad,er_map]at hr;refine rk1 zs [0,3,4] fun K V=> ?_;refine Zw (args':=[.int .i64 x2.2.nxt.pos]) func80 rfl rfl rfl (Ye x2.2.nxt.pos _ _) ?_ ?_
   ·rintro rr H' n' ⟨rfl,rfl,h1⟩;cases h1
   rintro q9 H' n' ⟨rfl,rfl,h1⟩;cases h1;exact QdE.err hr om (fun k e1 e2 e3=>by simp only[Rl];(repeat rw[if_neg om]);rw[hl2 k e2 e3,hl1 k e2 e3])
  have hok:¬(x2.2.nxt.kind≠1∨famF fs x2.2.nxt.text<0):=by
    rintro(e | e)
    ·have e9:((x2.2.nxt.kind:Int) !=1)=true:=oz;rw[e9]at hb;cases hb
    ·unfold famF at e;rw[decide_eq_true e]at hb;cases e9:((x2.2.nxt.kind:Int) !=1)<;>rw[e9]at hb<;>cases hb
  rw[if_neg hok]at hr;refine ak ?_;apply hK2;refine rk zs [3,4] fun K V=> ?_;refine Zw (args':=[.loc kr 0 0 0 []]) func121 rfl rfl rfl (YF fs t x2.2 kr ko v2 ht hI2.far (hI2.outs ht) _ _ ?_) ?_ ?_
  ·exact h2.low (fun k hk9=>oh) om
  rotate_left
  ·rintro q9 H' n' hc;exact hc.up (fun p9 he=>by rw[Yv he]at hr;exact hr) om (fun k e1 e2 e3=>by simp only[Rl];(repeat rw[if_neg om]);rw[hl2 k e2 e3,hl1 k e2 e3])
  rintro rr H3 n9 hc;obtain⟨_,v3,he,h3,rfl,hl3⟩:=hc.got om om hne;obtain⟨x3,hx3,hy⟩:=map_ok he;cases hy;have hI3:=(YQ ht hI2 om (w:=x3.1) (s':=x3.2) hx3).1.1;simp only[hx3,WU]at hr;have hR1:=h3.r;unfold qdO at hR1;have hB1:H3 n=some (.arr 0 1 [.str x2.1]):=(hl3 _ om om).trans (by simp only[Rl];(repeat rw[if_neg om]);simp);have hB2:H3 (n+1)=some (.arr 0 1 [.int .i64 (famF fs x2.2.nxt.text)]):=(hl3 _ om om).trans (by simp only[Rl];(repeat rw[if_neg om]);simp<;>rfl);refine nz ?_;apply V;clear V K;refine rg zs [2] ?_;refine ar ?_;exact QdE.ok hr h3 hko (fun k e1 e2 e3=>(hl3 k e2 e3).trans (by simp only[Rl];(repeat rw[if_neg om]);rw[hl2 k e2 e3,hl1 k e2 e3])) (.fn .nil (.cons (Vj hB2 om (.kl trivial)) (.cons (Vj hB1 om (.kl trivial)) .nil)))
 rw[if_neg (by rw[hb];simp)]at hr;refine ZL [0,47] (fun T' H' n'=>T'=tl [(0,.loc kr 0 0 0 []),(47,.bool (isF s Y1||isF s YG))]∧H=H'∧n=n') ?_ ?_
 ·refine rc zs [0,47] func120 ((Xr fs t s kr ko ver Y1 _ _ hR)) ?_;refine Zb ?_ ?_<;>intro hb
  ·try (have hq:isF s Y1=true∨isF s YG=true:=osb)
   try rw[if_pos hq]at hr
   refine ak ?_;refine ns ?_;rw[hb];first | rfl | (cases isF s Y1<;>cases isF s YG<;>first | rfl | contradiction)
  try rw[if_neg osb]at hr
  refine rc1 zs [0,47] func120 ((Xr fs t s kr ko ver YG _ _ hR)) ?_;refine ns ?_;rw[hb];first | rfl | (cases isF s Y1<;>cases isF s YG<;>first | rfl | contradiction)
 rintro T1 H1 n1 ⟨rfl,rfl,rfl⟩;refine Zb ?_ ?_<;>intro hb
 ·try (have hq:isF s Y1=true∨isF s YG=true:=osb)
  try rw[if_pos hq]at hr
  refine rk zs [0,5] fun K V=> ?_;refine Zw (args':=[.loc kr 0 0 0 []]) func121 rfl rfl rfl (YF fs t s kr ko ver ht hI.far (hI.outs ht) _ _ ?_) ?_ ?_
  ·exact h
  rotate_left
  ·rintro q9 H' n' hc;exact hc.up (fun p9 he=>by rw[Yv he]at hr;exact hr) om (fun k e1 e2 e3=>by rfl)
  rintro rr H1 n9 hc;obtain⟨_,v1,he,h1,rfl,hl1⟩:=hc.got om om hne;obtain⟨x1,hx1,hy⟩:=map_ok he;cases hy;have hI1:=(YQ ht hI (by rcases hq with e | e<;>exact YV e) (w:=x1.1) (s':=x1.2) hx1).1.1;simp only[hx1,ZY]at hr;have hR1:=h1.r;unfold qdO at hR1;refine nz ?_;apply V;clear V K;refine rk zs [0,5,6] fun K V=> ?_;refine Zw (args':=[.loc kr 0 0 0 [],.sl 1 (sAll.map .str)]) func159 rfl rfl rfl (Qv fs t x1.2 kr ko v1 ht hI1.far (hI1.outs ht) sAll odc _ _ ?_) ?_ ?_
  ·exact h1.low (fun k hk9=>oh) om
  rotate_left
  ·rintro q9 H' n' hc;exact hc.up (fun p9 he=>by rw[Yv he]at hr;exact hr) om (fun k e1 e2 e3=>by rw[Rk _ _ om];exact hl1 k e2 e3)
  rintro rr H2 n9 hc;obtain⟨_,v2,he,h2,rfl,hl2⟩:=hc.got om om hne;obtain⟨x2,hx2,hy⟩:=map_ok he;cases hy;have hI2:=(QW ht hI1 (w:=x2.1) (s':=x2.2) hx2).1;simp only[hx2,ZY]at hr;have hR1:=h2.r;unfold qdO at hR1;have hB1:H2 n=some (.arr 0 1 [.bool (x1.1.text==Y1)]):=(hl2 _ om om).trans (by simp only[Rl];(repeat rw[if_neg om]);simp<;>rfl);refine nz ?_;apply V;clear V K;refine rk zs [5,6,7] fun K V=> ?_;refine Zw (args':=[.loc kr 0 0 0 [],.int .i64 ((3:Nat):Int)]) func161 rfl rfl rfl (Lg fs t x2.2 kr ko v2 ht hI2.far (hI2.outs ht) 3 _ _ ?_) ?_ ?_
  ·exact h2.low (fun k hk9=>oh) om
  rotate_left
  ·rintro q9 H' n' hc;exact hc.up (fun p9 he=>by rw[Yv he]at hr;exact hr) om (fun k e1 e2 e3=>by rw[Rk _ _ om,hl2 k e2 e3,Rk _ _ om];exact hl1 k e2 e3)
  rintro rr H3 n9 hc;obtain⟨_,v3,he,h3,rfl,hl3⟩:=hc.got om om hne;obtain⟨x3,hx3,hy⟩:=map_ok he;cases hy;have hI3:=(Np ht odc hI2 (w:=x3.1) (s':=x3.2) hx3).1;simp only[hx3,WU]at hr;have hR1:=h3.r;unfold qdO at hR1;have hB2:H3 (n+1)=some (.arr 0 1 [.str x2.1]):=(hl3 _ om om).trans (by simp only[Rl];(repeat rw[if_neg om]);simp);have hB1:=(hl3 n om om).trans ((Rk _ _ om).trans hB1);refine nz ?_;apply V;clear V K;refine rg zs [2] ?_;refine ar ?_;exact QdE.ok hr (h3.on (Rk _ _ om) (Rk _ _ om) (Nat.le_refl _)) hko (fun k e1 e2 e3=>by rw[Rk _ _ om,hl3 k e2 e3,Rk _ _ om,hl2 k e2 e3,Rk _ _ om];exact hl1 k e2 e3) (.fn .nil (.cons (Vj ((Rk _ _ om).trans hB1) om (.kl trivial)) (.cons (Vj ((Rk _ _ om).trans hB2) om (.kl trivial)) (.cons (Vj (Rm _ _ _) om (.kl (Z4 _ _))) .nil))))
 try rw[if_neg osb]at hr
 refine rc zs [0,63] func120 ((Xr fs t s kr ko ver wTs _ _ hR)) ?_;refine Zb ?_ ?_<;>intro hb
 ·rw[if_pos hb]at hr;refine rk zs [0] fun K V=> ?_;refine Zw (args':=[.loc kr 0 0 0 []]) func121 rfl rfl rfl (YF fs t s kr ko ver ht hI.far (hI.outs ht) _ _ ?_) ?_ ?_
  ·exact h
  rotate_left
  ·rintro q9 H' n' hc;exact hc.up (fun p9 he=>by rw[Yv he]at hr;exact hr) om (fun k e1 e2 e3=>by rfl)
  rintro rr H1 n9 hc;obtain⟨_,v1,he,h1,rfl,hl1⟩:=hc.got om om hne;obtain⟨x1,hx1,hy⟩:=map_ok he;cases hy;have hI1:=(YQ ht hI (YV hb) (w:=x1.1) (s':=x1.2) hx1).1.1;simp only[hx1,ZY]at hr;have hR1:=h1.r;unfold qdO at hR1;refine nz ?_;apply V;clear V K;refine rk zs [0,8] fun K V=> ?_;refine Zw (args':=[.loc kr 0 0 0 [],.sl 1 (sCmp.map .str)]) func159 rfl rfl rfl (Qv fs t x1.2 kr ko v1 ht hI1.far (hI1.outs ht) sCmp odc _ _ ?_) ?_ ?_
  ·exact h1
  rotate_left
  ·rintro q9 H' n' hc;exact hc.up (fun p9 he=>by rw[Yv he]at hr;exact hr) om (fun k e1 e2 e3=>by exact hl1 k e2 e3)
  rintro rr H2 n9 hc;obtain⟨_,v2,he,h2,rfl,hl2⟩:=hc.got om om hne;obtain⟨x2,hx2,hy⟩:=map_ok he;cases hy;have hI2:=(QW ht hI1 (w:=x2.1) (s':=x2.2) hx2).1;simp only[hx2,ZY]at hr;have hR1:=h2.r;unfold qdO at hR1;refine nz ?_;apply V;clear V K;refine rk zs [8,9] fun K V=> ?_;refine Zw (args':=[.loc kr 0 0 0 [],.int .i64 ((2:Nat):Int)]) func161 rfl rfl rfl (Lg fs t x2.2 kr ko v2 ht hI2.far (hI2.outs ht) 2 _ _ ?_) ?_ ?_
  ·exact h2.low (fun k hk9=>oh) om
  rotate_left
  ·rintro q9 H' n' hc;exact hc.up (fun p9 he=>by rw[Yv he]at hr;exact hr) om (fun k e1 e2 e3=>by rw[Rk _ _ om,hl2 k e2 e3];exact hl1 k e2 e3)
  rintro rr H3 n9 hc;obtain⟨_,v3,he,h3,rfl,hl3⟩:=hc.got om om hne;obtain⟨x3,hx3,hy⟩:=map_ok he;cases hy;have hI3:=(Np ht odc hI2 (w:=x3.1) (s':=x3.2) hx3).1;simp only[hx3,WU]at hr;have hR1:=h3.r;unfold qdO at hR1;have hB1:H3 n=some (.arr 0 1 [.str x2.1]):=(hl3 _ om om).trans (by simp only[Rl];(repeat rw[if_neg om]);simp);refine nz ?_;apply V;clear V K;refine rg zs [2] ?_;refine ar ?_;exact QdE.ok hr (h3.on (Rk _ _ om) (Rk _ _ om) (Nat.le_refl _)) hko (fun k e1 e2 e3=>by rw[Rk _ _ om,hl3 k e2 e3,Rk _ _ om,hl2 k e2 e3];exact hl1 k e2 e3) (.fn .nil (.cons (Vj ((Rk _ _ om).trans hB1) om (.kl trivial)) (.cons (Vj (Rm _ _ _) om (.kl trivial)) .nil)))
 rw[if_neg (by rw[hb];simp),er_map]at hr;refine ak ?_;apply hK1;refine rk zs [] fun K V=> ?_;refine Zw (args':=[.int .i64 s.nxt.pos]) func80 rfl rfl rfl (Ye s.nxt.pos _ _) ?_ ?_
 ·rintro rr H' n' ⟨rfl,rfl,h1⟩;cases h1
 rintro q9 H' n' ⟨rfl,rfl,h1⟩;cases h1;exact QdE.err hr om (fun k e1 e2 e3=>by rfl)
open N0 in
theorem Qr(x lo hi:Int)(H:Heap)(n:Nat):Ret prog 103 [.int .i64 x,.int .i64 lo,.int .i64 hi] H n (.bool (bout x lo hi)) H n:=by
 refine fw func103 ntmps103 results103 ?_;exact kbp
open N0 in
theorem c_ref2_name(s:List UInt8)(H:Heap)(n:Nat):Ret prog 104 [.str s] H n (.bool (Xp s)) H n:=by
 refine fw func104 ntmps104 results104 ?_;refine rg zs [0] ?_;refine Za fun K1 hK1=> ?_;refine rk zs [0,8] fun K V=> ?_;refine ck func103 ((by apply Qr<;>first | assumption | omega)) ?_;apply V;clear V K;refine Zb ?_ ?_<;>intro hb
 ·have hend:Xp s=false:=by unfold Xp;rw[hb];rfl
  refine rg zs [2] ?_;refine ar ?_;rw[hend]
 have hlen:=V9 hb;have hb8:bout s.length 1 32=false:=hb;refine ak ?_;apply hK1;refine Za fun K2 hK2=> ?_;refine rg zs [0,3] ?_;refine Zq ?_;refine Zk (fun T' H' n'=>∃i:Nat,i≤s.length∧T'=tl [(0,.str s),(3,.int .i64 i)]∧H'=H∧n'=n∧(s.drop i).all Vo=s.all Vo∧(0<i→XC (s.getD 0 0)=true)) (fun T' _ _=>s.length-iv (T' 3)) ?_ ?_
 ·exact⟨0,Nat.zero_le _,rfl,rfl,rfl,osi,fun h=>absurd h odc⟩
 rintro T1 H1 n1 ⟨i,hi,rfl,rfl,rfl,hall,hl0⟩;refine Za fun K3 hK3=> ?_;refine rg zs [0,3,12] ?_;refine Zb ?_ ?_<;>intro hb
 ·have hlt:i<s.length:=osb;rw[Wi s i hlt,List.all_cons]at hall;have hg0:i=0→s.getD 0 0=s.getD i default:=fun h=>by rw[h];rfl
  refine ak ?_;apply hK3;refine bk fun K4 hK4=> ?_;refine Zg zs [0,3,4] fun K V=> ?_
  try simp only[go_sem,seval,qd]
  repeat refine peel ?_
  apply V;clear V K;generalize hc:s.getD i default=c at*;have hc0:s.getD i 0=c:=hc;refine Zg zs [0,3,4,5] fun K V=> ?_
  try simp only[go_sem,seval,hc0]
  repeat refine peel ?_
  apply V;clear V K;have hA:(bif decide (97≤(c.toNat:Int))then decide ((c.toNat:Int)≤122)else false)=XC c:=by unfold XC;cases decide (97≤(c.toNat:Int))<;>rfl
  refine rg zs [0,3,41] ?_;refine Zb ?_ ?_<;>intro hb
  ·rw[hA]at hb;have hend:Xp s=false:=by
     by_cases h0:i=0
     ·have h1:XC c=false:=by cases h9:XC c<;>simp_all
      unfold Xp;rw[hg0 h0,h1];simp
     ·have h2 : Vo c = false := by
        unfold Vo;have h3:((i:Int)==0)=false:=oz;rw[h3]at hb;cases h4:XC c<;>cases h5:decide ((c.toNat:Int)<48)<;>cases h6:decide (57<(c.toNat:Int))<;>cases h7:((c.toNat:Int) !=95)<;>simp_all
      rw[h2]at hall;unfold Xp;rw[←hall];simp
   refine rg zs [2] ?_;refine ar ?_;rw[hend]
  rw[hA]at hb;have h2:Vo c=true:=by
    unfold Vo;cases h3:((i:Int)==0)<;>rw[h3]at hb<;>cases h4:XC c<;>cases h5:decide ((c.toNat:Int)<48)<;>cases h6:decide (57<(c.toNat:Int))<;>cases h7:((c.toNat:Int) !=95)<;>simp_all
  have h3:XC (s.getD 0 0)=true:=by
    by_cases h0:i=0
    ·rw[hg0 h0];cases h9:XC c<;>simp_all
    ·exact hl0 om
  rw[h2,Bool.true_and]at hall;refine ak ?_;apply hK4;refine rg1 zs [0,3] ?_;exact⟨⟨i+1,om,by rw[w1 om],hall,fun _=>h3⟩,by rw[w1 om];simp;omega⟩
 have hge:i=s.length:=by simp at hb;omega
 have hend:Xp s=true:=by
   unfold Xp;rw[hb8,hl0 om,←hall,hge];simp
 refine ax ?_;apply hK2;refine rg zs [2] ?_;refine ar ?_;rw[hend]
open N0 in
theorem c_ref2_Family(s:List Fml)(name:List UInt8)(hl:s.length≤1048576)(H:Heap)(n:Nat):Ret prog 105 [Zh s,.str name] H n (.int .i64 (Xv s name 0)) H n:=by
 refine Ret.fin ?_;refine fw func105 ntmps105 results105 ?_;refine rg zs [1,2] ?_;refine Za fun K1 hK1=> ?_;refine rg zs [1,2,5] ?_;refine kbM ?_;refine Zk (fun T' H' n'=>∃i:Nat,i≤s.length∧T'=tl [(1,.str name),(2,.loc n 0 0 0 []),(5,.int .i64 i)]∧H'=H.put n (some (.arr 0 1 [.agg [.sl 3 (s.map Y6)]]))∧n'=n+1∧Xv (s.drop i) name i=Xv s name 0) (fun T' _ _=>s.length-iv (T' 5)) ?_ ?_
 ·exact⟨0,Nat.zero_le _,rfl,rfl,rfl,rfl⟩
 rintro T1 H1 n1 ⟨i,hi,rfl,rfl,rfl,hix⟩;refine Za fun K2 hK2=> ?_;refine rg zs [1,2,5,10] ?_;refine Zb ?_ ?_<;>intro hb
 ·have hlt:i<s.length:=osb;rw[Wi s i hlt,Xv]at hix;have hnth:nth (s.map Y6) i=Y6 (s.getD i default):=Zr Y6 s i hlt;refine kaQ ?_;refine bk fun K3 hK3=> ?_;refine Zg zs [1,2,5,20] fun K V=> ?_
  try simp only[go_sem,seval,qd,hnth]
  refine kad ?_;refine Zb ?_ ?_<;>intro hb
  ·have he:(s.getD i default).name=name:=osb;rw[if_pos he]at hix;refine kag ?_;exact kaT
  have he:¬(s.getD i default).name=name:=osb;rw[if_neg he]at hix;refine kba ?_;exact kcz
 have hge:i=s.length:=by simp at hb;omega
 have hix:(-1:Int)=Xv s name 0:=by rw[←hix,hge];simp[Xv]
 refine ax ?_;apply hK1;refine kag ?_;exact kaT
open N0 in
theorem Kn(s:List Fml)(H:Heap)(n:Nat):Ret prog 69 [Zh s] H n (.int .i64 (Zy s)) H n:=by
 refine Ret.fin ?_;refine fw func69 ntmps69 results69 ?_;refine rg zs [1] ?_;refine Za fun K1 hK1=> ?_;refine rk zs [1,8] fun K V=> ?_;refine ck func103 ((by apply Qr<;>first | assumption | omega)) ?_;apply V;clear V K;refine Zb ?_ ?_<;>intro hb
 ·have hres : (28 : Int) = Zy s := by
    have:bout s.length 1 8=true:=osb;simp[Zy,this]
  refine rg zs [2] ?_;refine ar ?_;refine⟨_,rfl,?_,Frz.eq (by rw[hres]) trivial⟩;intro k hk;have h0:k≠n:=om
  simp[Heap.put,h0];done
 have hb8:bout s.length 1 8=false:=osb;have hlen:=V9 hb8;refine ak ?_;apply hK1;refine Za fun K2 hK2=> ?_;refine rg zs [1,3] ?_;refine Zq ?_;refine Zk (fun T' H' n'=>∃i:Nat,i≤s.length∧T'=tl [(1,.loc n 0 0 0 []),(3,.int .i64 i)]∧n+1≤n'∧H' n=some (.arr 0 1 [.agg [.sl 3 (s.map Y6)]])∧(∀k,k<n→H' k=H k)∧X5 s (s.drop i) i=X5 s s 0) (fun T' _ _=>s.length-iv (T' 3)) ?_ ?_
 ·exact⟨0,Nat.zero_le _,rfl,om,Rm _ _ _,fun k hk=>Rk _ _ om,rfl⟩
 rintro T1 H1 n1 ⟨i,hi,rfl,hn,hHn,hH,hix⟩;refine Za fun K3 hK3=> ?_;refine Zg zs [1,3,13] fun K V=> ?_
 try simp only[go_sem,seval,hHn]
 repeat refine peel ?_
 apply V;clear V K;refine Zb ?_ ?_<;>intro hb
 ·have hlt:i<s.length:=osb;rw[Wi s i hlt,KW]at hix;have hn1:(n=n1)=False:=oz;have hnth:nth (s.map Y6) i=Y6 (s.getD i default):=Zr Y6 s i hlt;refine ak ?_;apply hK3;refine bk fun K4 hK4=> ?_;refine Zg zs [1,3,4] fun K V=> ?_
  try simp only[go_sem,seval,qd,hnth,hHn]
  repeat refine peel ?_
  apply V;clear V K;refine Zg zs [1,3,42] fun K V=> ?_
  try simp only[go_sem,seval,qd,hn1,hHn]
  repeat refine peel ?_
  refine Zu func104 rfl rfl rfl ((c_ref2_name (s.getD i default).name _ _)) ?_
  try simp only[go_sem,seval,qd,hn1,hHn]
  repeat refine peel ?_
  refine YM func103 rfl rfl rfl (fun _=>(Qr (s.getD i default).max 1 16 _ _)) ?_
  try simp only[go_sem,seval,qd,hn1,hHn]
  repeat refine peel ?_
  refine YM func103 rfl rfl rfl (fun _=>(Qr (s.getD i default).ttl 0 1099511627776 _ _)) ?_
  try simp only[go_sem,seval,qd,hn1,hHn]
  repeat refine peel ?_
  refine YM func105 rfl rfl rfl (fun _=>(c_ref2_Family s (s.getD i default).name om _ _)) ?_
  try simp only[go_sem,seval,qd,hn1,hHn]
  repeat refine peel ?_
  apply V;clear V K;refine Zb ?_ ?_<;>intro hb
  ·have hbad : Vv s (s.getD i default) i = true := by
     simp only[Vv];cases h1:Xp (s.getD i default).name<;>cases h2:bout (s.getD i default).max 1 16<;>cases h3:bout (s.getD i default).ttl 0 1099511627776<;>simp_all
   have hres:(28:Int)=Zy s:=by rw[hbad]at hix;simp[Zy,hb8,←hix]
   refine rg zs [2] ?_;refine ar ?_;refine⟨_,rfl,?_,Frz.eq (by rw[hres]) trivial⟩;intro k hk;have h0:k≠n:=om
   have h1:k≠n1:=om;simp[Heap.put,h0,h1,hH k hk]
  have hbad:Vv s (s.getD i default) i=false:=by
    simp only[Vv];cases h1:Xp (s.getD i default).name<;>cases h2:bout (s.getD i default).max 1 16<;>cases h3:bout (s.getD i default).ttl 0 1099511627776<;>simp_all
  rw[hbad,Bool.false_or]at hix;refine ak ?_;apply hK4;refine rg1 zs [1,3] ?_;refine⟨⟨i+1,om,by rw[w1 om],om,?_,?_,hix⟩,by rw[w1 om];simp;omega⟩
  ·simp[hn1,hHn,Zh]
  ·intro k hk;have h0:k≠n1:=om
   simp[h0,hH k hk]
 have hge:i=s.length:=by simp at hb;omega
 have hres:(0:Int)=Zy s:=by rw[hge]at hix;simp[X5]at hix;simp[Zy,hb8,hix]
 refine ax ?_;apply hK2;refine rg zs [2] ?_;refine ar ?_;refine⟨_,rfl,?_,Frz.eq (by rw[hres]) trivial⟩;intro k hk;have h0:k≠n:=om
 exact hH k hk
open N0 in
theorem ML(b:UInt8)(H:Heap)(n:Nat):Ret prog 147 [Zd b] H n (.bool (Wp b)) H n:=by
 refine fw func147 ntmps147 results147 ?_;refine kcu ?_;refine kal ?_;exact kbm
open N0 in
theorem Vl(b:UInt8)(H:Heap)(n:Nat):Ret prog 148 [Zd b] H n (.bool (ZA b)) H n:=by
 refine fw func148 ntmps148 results148 ?_;refine kcu ?_;refine kal ?_;exact kbo
open N0 in
theorem Vs(x lo hi:Int)(H:Heap)(n:Nat):Ret prog 68 [.int .i64 x,.int .i64 lo,.int .i64 hi] H n (.bool (bout x lo hi)) H n:=by
 refine fw func68 ntmps68 results68 ?_;exact kbp
theorem half_all:∀r:Fin 256,(if ZA (UInt8.ofNat r.1)then IntKind.i64.wrap (IntKind.u8.wrap (((UInt8.ofNat r.1).toNat:Int)-48))else if (bif decide ((97:Int)≤((UInt8.ofNat r.1).toNat:Int))then decide (((UInt8.ofNat r.1).toNat:Int)≤102)else false)then IntKind.i64.wrap (IntKind.i64.wrap (IntKind.u8.wrap (((UInt8.ofNat r.1).toNat:Int)-97))+10)else -1)=hexI (UInt8.ofNat r.1):=by decide +kernel
theorem half_eq(b:UInt8):(if ZA b then IntKind.i64.wrap (IntKind.u8.wrap ((b.toNat:Int)-48))else if (bif decide ((97:Int)≤(b.toNat:Int))then decide ((b.toNat:Int)≤102)else false)then IntKind.i64.wrap (IntKind.i64.wrap (IntKind.u8.wrap ((b.toNat:Int)-97))+10)else -1)=hexI b:=by
 have h:=half_all ⟨b.toNat,b.toNat_lt⟩;have e:UInt8.ofNat b.toNat=b:=osi;simp only[e]at h;exact h
open N0 in
theorem VF(b:UInt8)(H:Heap)(n:Nat):Ret prog 156 [Zd b] H n (.int .i64 (hexI b)) H n:=by
 have hbl:=b.toNat_lt;refine fw func156 ntmps156 results156 ?_;refine kcu ?_;refine Za fun K1 hK1=> ?_;refine rc zs [0,4] func148 ((Vl b _ _)) ?_;refine Zb ?_ ?_<;>intro hb
 ·refine kal ?_;rw[←half_eq b];simp only[*];rfl
 refine kay ?_;refine Za fun K2 hK2=> ?_;refine rg zs [0,13] ?_;refine Zb ?_ ?_<;>intro hb
 ·refine kal ?_;rw[←half_eq b];simp only[*];rfl
 refine kaQ ?_;refine kal ?_;rw[←half_eq b];simp only[*];rfl
open N0 in
theorem M5(w:List UInt8)(H:Heap)(n:Nat):Ret prog 167 [.str w] H n (.int .u8 (if w=wFam then 110 else if w=wTs then 100 else 115)) H n:=by
 refine fw func167 ntmps167 results167 ?_;refine kcu ?_;refine Za fun K1 hK1=> ?_;refine rg zs [3] ?_;refine kbM ?_;refine rg zs [3,4] ?_;refine Zb ?_ ?_<;>intro hb
 ·refine kal ?_
  simp_all [wFam,wTs]
 refine rg zs [6] ?_;refine Zb ?_ ?_<;>intro hb
 ·refine kal ?_
  simp_all [wFam,wTs]
 refine kay ?_;refine kal ?_
 simp_all [wFam,wTs]
open N0 in
theorem c_ref13_may(k w:List UInt8)(H:Heap)(n:Nat):Ret prog 166 [.str k,.str w] H n (.bool (decide (w∈(if k=wFam then sEq else if k=wTs then sCmp else sAll)))) H n:=by
 refine fw func166 ntmps166 results166 ?_;refine kb1 ?_;refine Za fun K1 hK1=> ?_;refine rg zs [0,1,10] ?_;refine Zb ?_ ?_<;>intro hb
 ·refine kag ?_;simp only[wFam,wTs,sEq,sCmp,sAll];grind
 refine kay ?_;refine Za fun K2 hK2=> ?_;refine rg zs [0,1,12] ?_;refine Zb ?_ ?_<;>intro hb
 ·refine kag ?_;simp only[wFam,wTs,sEq,sCmp,sAll];grind
 refine kaQ ?_;refine kag ?_;simp only[wFam,wTs,sEq,sCmp,sAll];grind
open N0 in
theorem PX(s:List Fml)(name:List UInt8)(hl:s.length≤1048576)(H:Heap)(n:Nat):Ret prog 168 [Zh s,.str name] H n (.int .i64 (Xv s name 0)) H n:=by
 refine Ret.fin ?_;refine fw func168 ntmps168 results168 ?_;refine rg zs [1,2] ?_;refine Za fun K1 hK1=> ?_;refine rg zs [1,2,5] ?_;refine kbM ?_;refine Zk (fun T' H' n'=>∃i:Nat,i≤s.length∧T'=tl [(1,.str name),(2,.loc n 0 0 0 []),(5,.int .i64 i)]∧H'=H.put n (some (.arr 0 1 [.agg [.sl 3 (s.map Y6)]]))∧n'=n+1∧Xv (s.drop i) name i=Xv s name 0) (fun T' _ _=>s.length-iv (T' 5)) ?_ ?_
 ·exact⟨0,Nat.zero_le _,rfl,rfl,rfl,rfl⟩
 rintro T1 H1 n1 ⟨i,hi,rfl,rfl,rfl,hix⟩;refine Za fun K2 hK2=> ?_;refine rg zs [1,2,5,10] ?_;refine Zb ?_ ?_<;>intro hb
 ·have hlt:i<s.length:=osb;rw[Wi s i hlt,Xv]at hix;have hnth:nth (s.map Y6) i=Y6 (s.getD i default):=Zr Y6 s i hlt;refine kaQ ?_;refine bk fun K3 hK3=> ?_;refine Zg zs [1,2,5,20] fun K V=> ?_
  try simp only[go_sem,seval,qd,hnth]
  refine kad ?_;refine Zb ?_ ?_<;>intro hb
  ·have he:(s.getD i default).name=name:=osb;rw[if_pos he]at hix;refine kag ?_;exact kaT
  have he:¬(s.getD i default).name=name:=osb;rw[if_neg he]at hix;refine kba ?_;exact kcz
 have hge:i=s.length:=by simp at hb;omega
 have hix:(-1:Int)=Xv s name 0:=by rw[←hix,hge];simp[Xv]
 refine ax ?_;apply hK1;refine kag ?_;exact kaT
theorem Xw(b:List UInt8):List.take b.length (List.map Zd b)=List.map Zd b:=List.take_of_length_le osi
theorem hex16{a b:Nat}(ha:a<16)(hb:b<16):IntKind.u8.wrap (IntKind.i64.wrap (IntKind.i64.wrap (16*(a:Int))+(b:Int)))=((UInt8.ofNat (16*a+b)).toNat:Int):=by
 have key:∀(x y:Fin 16),IntKind.u8.wrap (IntKind.i64.wrap (IntKind.i64.wrap (16*((x.1:Nat):Int))+((y.1:Nat):Int)))=((UInt8.ofNat (16*x.1+y.1)).toNat:Int):=by decide +kernel
 exact key ⟨a,ha⟩ ⟨b,hb⟩
theorem NH30.eqs{P Q:Prop}(g:Imp P Q:=by(try simp only[go_sem,seval,e0,e1,qd,←hc,←hd]);exact Imp.rf):Imp P Q:=g
theorem NH30.sd{P:Prop}(g:P:=by first | (intro hx9;have h9:p+1<t.length:=(by simp at hx9;omega);exact⟨om,om⟩) | (intros;simp_all;done) | fail):P:=g
open NH30 NZ in
theorem c_ref13_sign(t:List UInt8)(p:Nat)(ht:t.length≤512)(hp:p<t.length)(H:Heap)(n:Nat):Ret prog 150 [.str t,.int .i64 p] H n (.int .i64 ((p+QV t p:Nat):Int)) H n:=by
 have e0:IntKind.i64.wrap ((p:Int)+1)=((p+1:Nat):Int):=by rw[w64 om om];omega
 have e1:IntKind.i64.wrap ((p:Int)+2)=((p+2:Nat):Int):=by rw[w64 om om];omega
 rw[signL_eq hp];obtain⟨c,hc⟩:∃c,c=t.getD p 0:=⟨_,rfl⟩;obtain⟨d,hd⟩:∃d,d=t.getD (p+1) 0:=⟨_,rfl⟩;have hcl:=c.toNat_lt;have hdl:=d.toNat_lt;rw[←hc,←hd];refine fw func150 ntmps150 results150 ?_;refine kb1 ?_;refine rg zs [0,1,5] ?_;refine Za fun K1 hK1=> ?_;refine rg zs [1,5,20] ?_;refine kbM ?_;refine Za fun K2 hK2=> ?_;refine rg zs [1,5,20,21] ?_;refine Zb ?_ ?_<;>intro hb
 ·refine kaQ ?_;refine Zb ?_ ?_<;>intro hb
  ·refine Za fun K3 hK3=> ?_;refine rg zs [1,24] ?_;refine Zb ?_ ?_<;>intro hb
   ·exact kaa
   refine kba ?_;exact kaa
  refine rg zs [1,5,20,29] ?_;refine Zb ?_ ?_<;>intro hb
  ·refine Za fun K4 hK4=> ?_;refine rg zs [1,31] ?_;refine Zb ?_ ?_<;>intro hb
   ·exact kaa
   refine kb3 ?_;exact kaa
  refine Za fun K5 hK5=> ?_;refine rg zs [1,20,35] ?_;refine Zb ?_ ?_<;>intro hb
  ·refine ak ?_;apply hK5;refine Zb ?_ ?_<;>intro hb
   ·exact kaa
   refine kay ?_;exact kaa
  refine rg zs [1,20,35] ?_;refine Zb ?_ ?_<;>intro hb
  ·refine ak ?_;apply hK5;refine Zb ?_ ?_<;>intro hb
   ·exact kaa
   refine kay ?_;exact kaa
  refine rg zs [1,20,35] ?_;refine Zb ?_ ?_<;>intro hb
  ·refine ak ?_;apply hK5;refine Zb ?_ ?_<;>intro hb
   ·exact kaa
   refine kay ?_;exact kaa
  refine rg1 zs [1,35] ?_;apply hK5;refine Zb ?_ ?_<;>intro hb
  ·exact kaa
  refine kay ?_;exact kaa
 refine rg1 zs [1,5,20,21] ?_;apply hK2;refine Zb ?_ ?_<;>intro hb
 ·refine Za fun K6 hK6=> ?_;refine rg zs [1,24] ?_;refine Zb ?_ ?_<;>intro hb
  ·exact kaa
  refine ak ?_;apply hK6;exact kaa
 refine rg zs [1,5,20,29] ?_;refine Zb ?_ ?_<;>intro hb
 ·refine Za fun K7 hK7=> ?_;refine rg zs [1,31] ?_;refine Zb ?_ ?_<;>intro hb
  ·exact kaa
  refine ak ?_;apply hK7;exact kaa
 refine Za fun K8 hK8=> ?_;refine rg zs [1,20,35] ?_;refine Zb ?_ ?_<;>intro hb
 ·refine ak ?_;apply hK8;refine Zb ?_ ?_<;>intro hb
  ·exact kaa
  refine kay ?_;exact kaa
 refine rg zs [1,20,35] ?_;refine Zb ?_ ?_<;>intro hb
 ·refine ak ?_;apply hK8;refine Zb ?_ ?_<;>intro hb
  ·exact kaa
  refine kay ?_;exact kaa
 refine rg zs [1,20,35] ?_;refine Zb ?_ ?_<;>intro hb
 ·refine ak ?_;apply hK8;refine Zb ?_ ?_<;>intro hb
  ·exact kaa
  refine kay ?_;exact kaa
 refine rg1 zs [1,35] ?_;apply hK8;refine Zb ?_ ?_<;>intro hb
 ·exact kaa
 refine kay ?_;exact kaa
theorem NH31.eqs{P Q:Prop}(g:Imp P Q:=by(try simp only[go_sem,seval,e0,hS,hx,qb,qd,Xw]);exact Imp.rf):Imp P Q:=g
theorem NH31.sd{P:Prop}(g:P:=by first | (intros;simp_all;done) | fail):P:=g
set_option maxHeartbeats 1600000 in
open NH31 NZ in
theorem PW(t:List UInt8)(p:Nat)(ht:t.length≤512)(hp:p<t.length)(H:Heap)(n:Nat):Ret prog 149 [.str t,.int .i64 p] H n (match strF t p with | some x=> .tup [.str x.1.str,.int .i64 x.2,.bool true] | none=> .tup [.str [],.int .i64 0,.bool false]) H n:=by
 obtain⟨r,hr⟩:∃r,r=(match strF t p with | some x=> .tup [.str x.1.str,.int .i64 x.2,.bool true] | none=> .tup [.str [],.int .i64 0,.bool false]:AV):=⟨_,rfl⟩;rw[←hr];unfold strF at hr;generalize hG:strG (t.length+1) (t.drop (p+1)) (p+1) [] [34]=G at hr;have e0:IntKind.i64.wrap ((p:Int)+1)=((p+1:Nat):Int):=by rw[w64 om om];omega
 have hS:=hp;have hx:=hp;refine Ret.fin ?_;refine fw func149 ntmps149 results149 ?_;refine kb1 ?_;refine rg zs [0,1,7] ?_;refine Za fun K1 hK1=> ?_;refine rg zs [0,7,8] ?_;refine kbM ?_;refine ZN 7 1 rfl ?_;refine Yl [0,7,8] ?_;simp only[go_sem,seval];refine Zk (fun T' H' n'=>∃(i f:Nat) (s x:List UInt8) (v:Nat),p<i∧i≤t.length∧t.length+p+2≤f+i∧strG f (t.drop i) i s x=G∧s.length≤i∧T'=tl [(0,.str t),(7,.osl n v 0 s.length),(8,.int .i64 i)]∧H' n=some (.arr v 1 (s.map Zd))∧(∀k,k<n→H' k=H k)∧n'=n+1) (fun T' _ _=>t.length-iv (T' 8)) ?_ ?_
 ·exact⟨p+1,t.length+1,[],[34],0,om,om,om,hG,osi,rfl,Rm _ _ _,fun k hk=>Rk _ _ om,rfl⟩
 rintro T1 H1 n1 ⟨i,f,s1,x1,v,hpi,hit,hfi,hgi,hsl,rfl,hS,hlow,rfl⟩;obtain⟨f,rfl⟩:∃g,f=g+1:=⟨f-1,om⟩;refine Za fun K2 hK2=> ?_;refine rg zs [0,7,8,15] ?_;refine Zb ?_ ?_<;>intro hb
 ·have hlt:i<t.length:=ott;have e1:IntKind.i64.wrap ((i:Int)+1)=((i+1:Nat):Int):=w1 om;have e2:IntKind.i64.wrap ((i:Int)+2)=((i+2:Nat):Int):=by rw[w64 om om];omega
  obtain⟨c,hc⟩:∃c,c=t.getD i 0:=⟨_,rfl⟩;obtain⟨d,hd⟩:∃d,d=t.getD (i+1) 0:=⟨_,rfl⟩;obtain⟨e,he⟩:∃e,e=t.getD (i+2) 0:=⟨_,rfl⟩;have hcl:=c.toNat_lt;have hdl:=d.toNat_lt;refine kaQ ?_;refine bk fun K3 hK3=> ?_;refine Zg zs [0,7,8,9] fun K V=> ?_
  try simp only[go_sem,seval,e0,hS,hx,qb,qd,Xw,e1,←hc]
  repeat (first | (refine And.intro ?_ ?_;· first | exact⟨om,om⟩) | refine peel ?_)
  refine kas ?_;refine kbM ?_;refine rg zs [0,7,8,9,21] ?_;refine Zb ?_ ?_<;>intro hb
  ·have k0:(t.getD i 0).toNat=34:=by rw[←hc];have h9:=hb;simp at h9;omega
   rw[←hgi,Nz hlt k0]at hr;refine Zg zs [4,5,6] fun K V=> ?_
   try simp only[go_sem,seval,e0,hS,hx,qb,qd,Xw,e1,e2,Zt]
   repeat (first | (refine And.intro ?_ ?_;· first | exact⟨Nat.le_refl _,Yg _⟩) | refine peel ?_)
   refine kas ?_;exact kaZ
  have k0:¬(t.getD i 0).toNat=34:=by rw[←hc];have h9:=hb;simp at h9;omega
  refine rg zs [0,7,8,9,28] ?_;refine Zb ?_ ?_<;>intro hb
  ·have k1:(t.getD i 0).toNat<32∨126<(t.getD i 0).toNat:=by rw[←hc];have h9:=hb;simp at h9;omega
   rw[←hgi,strG_bad hlt k0 k1]at hr;refine rg zs [4,5,6] ?_;exact kaZ
  have k1:¬((t.getD i 0).toNat<32∨126<(t.getD i 0).toNat):=by rw[←hc];have h9:=hb;simp at h9;omega
  refine rg zs [0,7,8,9,35] ?_;refine Zb ?_ ?_<;>intro hb
  ·have k2:¬(t.getD i 0).toNat=92:=by rw[←hc];have h9:=hb;simp at h9;omega
   have hst:=NA (f:=f) (s:=s1) (x:=x1) hlt k0 k1 k2▸hgi;refine ZP zs [0,7,8] fun K V=> ?_
   try simp only[go_sem,seval,e0,hS,hx,qb,qd,Xw,e1,e2,←hc]
   repeat (first | (refine And.intro ?_ ?_;· first | exact⟨rfl,by simp[AV.sz,AV.memOK]⟩ | exact⟨om,.inr trivial,om,om⟩) | refine peel ?_)
   refine kas ?_;refine ns ?_;apply hK3;refine ZP zs [0,7,8] fun K V=> ?_;refine ka4 ?_;refine kad ?_;refine ns ?_;refine⟨?_,by first | omega | (rw[w1 om];simp;omega)⟩;exact⟨i+1,f,_,_,v+1,om,om,om,hst,oz,by rw[qe];rfl,by rw[qj,hc];rfl,fun k hk=>by rw[if_neg om];exact hlow k hk⟩
  have k2:(t.getD i 0).toNat=92:=by rw[←hc];have h9:=hb;simp at h9;omega
  refine Zg zs [0,7,8,42] fun K V=> ?_
  try simp only[go_sem,seval,e0,hS,hx,qb,qd,Xw,e1,e2,←hd]
  repeat (first | (refine And.intro ?_ ?_;· first | (intro hx9;have h9:i+1<t.length:=(by simp at hx9;omega);exact⟨om,om⟩) | (intros;simp_all;done)) | refine peel ?_)
  refine kas ?_;refine Zb ?_ ?_<;>intro hb
  ·have k3:i+1<t.length:=by rcases Nat.lt_or_ge (i+1) t.length with q | q;exact q;(rw[decide_eq_false om]at hb;cases hb)
   have k4:(t.getD (i+1) 0).toNat=34∨(t.getD (i+1) 0).toNat=92:=by have h9:=hb;rw[decide_eq_true om]at h9;rw[←hd];simp at h9;omega
   have hst:=strG_esc1 (f:=f) (s:=s1) (x:=x1) k3 k2 k4▸hgi;refine Zg zs [0,7,8] fun K V=> ?_
   try simp only[go_sem,seval,e0,hS,hx,qb,qd,Xw,e1,e2,←hd]
   repeat (first | (refine And.intro ?_ ?_;· first | exact⟨om,om⟩ | exact⟨rfl,by simp[AV.sz,AV.memOK]⟩ | exact⟨om,.inr trivial,om,om⟩) | refine peel ?_)
   refine kas ?_;refine ZP zs [0,7,8] fun K V=> ?_;refine ka4 ?_;refine kad ?_;refine ns ?_;apply hK3;refine ZP zs [0,7,8] fun K V=> ?_;refine ka4 ?_;refine kad ?_;refine ns ?_;refine⟨?_,by first | omega | (rw[w1 om];simp;omega)⟩;exact⟨i+2,f,_,_,v+1,om,om,om,hst,oz,by rw[qe,w1 om];rfl,by rw[qj,hd];rfl,fun k hk=>by rw[if_neg om];exact hlow k hk⟩
  have k4:i+1<t.length→¬((t.getD (i+1) 0).toNat=34∨(t.getD (i+1) 0).toNat=92):=fun q=>by rw[decide_eq_true om]at hb;rw[←hd];have h9:=hb;simp at h9;omega
  refine Zg zs [0,7,8,71] fun K V=> ?_;refine kb7 ?_
  repeat (first | (refine And.intro ?_ ?_;· first | (intro hx9;have h9:i+2<t.length:=(by simp at hx9;omega);exact⟨om,om⟩)) | refine peel ?_)
  refine YM func156 rfl rfl rfl (fun _=>(VF d _ _)) ?_;refine kb7 ?_
  repeat (first | (refine And.intro ?_ ?_;· first | (intro hx9;have h9:i+2<t.length:=(by simp at hx9;omega);exact⟨om,om⟩) | (intros;simp_all;done)) | refine peel ?_)
  refine YM func156 rfl rfl rfl (fun _=>(VF e _ _)) ?_;refine kb7 ?_
  repeat (first | (refine And.intro ?_ ?_;· first | (intros;simp_all;done)) | refine peel ?_)
  refine kas ?_;refine Zb ?_ ?_<;>intro hb
  ·have k5:i+2<t.length:=by rcases Nat.lt_or_ge (i+2) t.length with q | q;exact q;(rw[decide_eq_false om]at hb;cases hb)
   rw[decide_eq_true om]at hb;obtain⟨a,ha,ha2⟩:∃a,hexV d=some a∧hexI d=((a:Nat):Int):=JG (by by_cases q:0≤hexI d;exact q;(rw[decide_eq_false q]at hb;cases hb));obtain⟨b,hb2,hb3⟩:∃b,hexV e=some b∧hexI e=((b:Nat):Int):=JG (by by_cases q:0≤hexI e;exact q;(rw[decide_eq_false q]at hb;cases h:decide (0≤hexI d)<;>rw[h]at hb<;>cases hb));have hal:=Ni ha;have hbl:=Ni hb2;have hst:=strG_esc4 (f:=f) (s:=s1) (x:=x1) k5 k2 (k4 om) (hd▸ha) (he▸hb2)▸hgi;refine Y0 rfl zs [0,7,8] [.m,.m,.m,.q,.q,.c,.q,.m,.m,.q,.q,.c,.q,.q,.q,.w [],.q] [0,1,2,3,4,5,6,7,8,9,10,11,12,13,14,15,16] [0,1,2,3,4,5,6,7,8,9,10,11,12,13,14,15,16] (by kernel_rfl) (fun _ _ _ _ _ h=>h) fun K V=> ?_;refine kbu ?_
   repeat (first | (refine And.intro ?_ ?_;· first | exact⟨om,om⟩) | refine peel ?_)
   refine ZQ func156 rfl rfl rfl (fun _ n=>(VF d _ _)) ?_;refine kbu ?_
   repeat (first | (refine And.intro ?_ ?_;· first | exact⟨om,om⟩) | refine peel ?_)
   refine ZQ func156 rfl rfl rfl (fun _ n=>(VF e _ _)) ?_;refine kbu ?_
   repeat (first | (refine And.intro ?_ ?_;· first | exact⟨rfl,by simp[AV.sz,AV.memOK]⟩ | exact⟨om,.inr trivial,om,om⟩) | refine peel ?_)
   refine kas ?_;refine ZP zs [0,7,8] fun K V=> ?_;refine ka4 ?_;refine kad ?_;refine ns ?_;apply hK3;refine ZP zs [0,7,8] fun K V=> ?_;refine ka4 ?_;refine kad ?_;refine ns ?_;refine⟨?_,by first | omega | (rw[w1 om];simp;omega)⟩;exact⟨i+3,f,_,_,v+1,om,om,om,hst,oz,by rw[qe,w1 om];rfl,by rw[qj];rfl,fun k hk=>by rw[if_neg om];exact hlow k hk⟩
  have k6:strG (f+1) (t.drop i) i s1 x1=none:=by
    rcases Nat.lt_or_ge (i+1) t.length with q | q
    ·rcases Nat.lt_or_ge (i+2) t.length with q2 | q2
     ·rw[decide_eq_true om]at hb;refine strG_esc3 q2 k2 (k4 q) ?_;by_cases hd0:hexI d<0
      ·left;rw[←hd];exact JF hd0
      ·right;rw[decide_eq_true om]at hb;rw[←he];exact JF otf
     ·exact strG_esc2 q k2 (k4 q) q2
    ·exact strG_esc0 hlt k2 q
  rw[←hgi,k6]at hr;refine Zg zs [4,5,6] fun K V=> ?_
  try simp only[go_sem,seval,e0,hS,hx,qb,qd,Xw,e1,e2,←hc]
  refine kad ?_;exact kaZ
 have hge:t.length≤i:=otf;rw[←hgi,strG_end hge]at hr;refine ax ?_;apply hK1;refine rg zs [4,5,6] ?_;exact kaZ
theorem w1g{i m:Nat}(h:i<m)(hm:m≤512):IntKind.i64.wrap ((i:Int)+1)=((i+1:Nat):Int):=by rw[w64 om om];omega
theorem cut_next{t:List UInt8}{q i:Nat}(hq:q≤i)(h:i<t.length):(t.take (i+1)).drop q=(t.take i).drop q++[t.getD i 0]:=by
 rw[List.take_succ_eq_append_getElem h,List.drop_append_of_le_length (by rw[qk];omega)];simp[List.getD,h]
theorem Vw{a b:Bool}(h:(bif a then b else false)=true):a=true∧b=true:=by cases a<;>simp_all
def VB(t:List UInt8)(p:Nat):List UInt8×Nat×Bool:=match strF t p with | some x=>(x.1.str,x.2,true) | none=>([],0,false)
theorem M4(t:List UInt8)(p:Nat)(ht:t.length≤512)(hp:p<t.length)(H:Heap)(n:Nat):Ret prog 149 [.str t,.int .i64 p] H n (.tup [.str (VB t p).1,.int .i64 (VB t p).2.1,.bool (VB t p).2.2]) H n:=by
 have h:=PW t p ht hp H n;unfold VB;cases hs:strF t p with
 | none=>rw[hs]at h;exact h
 | some x=>rw[hs]at h;exact h
theorem strF_kind{t:List UInt8}{p:Nat}{x:Wd×Nat}(h:strF t p=some x):x.1.kind=3∧x.1.pos=p∧x.1.num=0:=by
 unfold strF at h;obtain⟨y,_,rfl⟩:=Option.map_eq_some_iff.1 h;exact⟨rfl,rfl,rfl⟩
theorem nameQ_of(x:UInt8):(bif (bif Wp x then true else ZA x)then true else((x.toNat:Int)==95))=Xk x:=by
 unfold Xk;have:((x.toNat:Int)==95)=(x.toNat==95):=obq;rw[this];cases Wp x<;>cases ZA x<;>rfl
theorem numX{t : List UInt8}{q j : Nat}(hwn : ZM ZA t q = j)(hq : q < t.length)(hc : ZA (t.getD q 0) = true):
   q<j∧(t.drop q).takeWhile ZA=(t.take j).drop q∧numF t q=if 1099511627776<satN ((t.take j).drop q)∨(1<j-q∧(t.getD q 0).toNat=48)then none else some (⟨2,q,(t.take j).drop q,satN ((t.take j).drop q),[]⟩,j):=by
 have hcut:=U9 ZA t q;rw[hwn]at hcut;have hqj:q<j:=hwn▸U6 (drop_at hq) hc;have hjl:j≤t.length:=hwn▸(XK ZA t q om).2;refine⟨hqj,hcut.symm,?_⟩;have hd:∀c∈(t.take j).drop q,ZA c=true:=fun c hc=>by
   rw[hcut]at hc;exact List.all_eq_true.1 (List.all_takeWhile (p:=ZA) (l:=t.drop q)) c hc
 have hl:((t.take j).drop q).length=j-q:=by rw[List.length_drop,qk];omega
 have h0:((t.take j).drop q).getD 0 0=t.getD q 0:=by
   simp only[List.getD_eq_getElem?_getD,List.getElem?_drop,List.getElem?_take];simp[show q<j from hqj]
 have e48:(((t.take j).drop q).getD 0 0=48)=((t.getD q 0).toNat=48):=by rw[h0];exact propext UInt8.toNat_inj.symm
 unfold numF;simp only[hwn,←hcut,hl,e48];by_cases hz:1<j-q∧(t.getD q 0).toNat=48
 ·rw[if_pos (.inr hz),if_pos (.inr hz)]
 ·obtain⟨n1,n2⟩:=satN_num hd (by rw[hl,e48];exact hz);by_cases hb:1099511627776<numV ((t.take j).drop q)
  ·rw[if_pos (.inl hb),if_pos (.inl (n1.2 hb))]
  ·rw[if_neg (by rintro(h | h);exact hb h;exact hz h),if_neg (by rintro(h | h);exact hb (n1.1 h);exact hz h),n2 om]
theorem sign_cut{t : List UInt8}{q : Nat}(hq : q < t.length): q + QV t q ≤ t.length ∧ (match YO.find? (fun s => s.isPrefixOf (t.drop q)) with
   | some s=>(Except.ok (⟨4,q,s,0,[]⟩,q+s.length):Except Nat (Wd×Nat))
   | none=> .error q)=if 0<QV t q then .ok (⟨4,q,(t.take (q+QV t q)).drop q,0,[]⟩,q+QV t q)else .error q:=by
 unfold QV;cases hf:YO.find? (fun s=>s.isPrefixOf (t.drop q))with
 | none=>exact⟨by simp only;omega,rfl⟩
 | some s=>
   have hp:=List.find?_some hf
   replace hp:s.isPrefixOf (t.drop q)=true:=hp
   rw[List.isPrefixOf_iff_prefix]at hp;obtain⟨u,hu⟩:=hp;have hm:=List.mem_of_find?_eq_some hf;have hpos:0<s.length:=by
     simp only[YO,List.mem_cons,List.not_mem_nil,or_false]at hm;rcases hm with rfl | rfl | rfl | rfl | rfl | rfl | rfl | rfl | rfl<;>decide
   have hl:=congrArg List.length hu;rw[qe,List.length_drop]at hl;refine⟨by simp only;omega,?_⟩;simp only;rw[if_pos hpos];have:(t.take (q+s.length)).drop q=s:=by rw[List.drop_take,←hu,Nat.add_sub_cancel_left];simp
   rw[this]
theorem NH40.eqs{P Q:Prop}(g:Imp P Q:=by(try simp only[go_sem,seval,hW,hB,f1,f2,qd]);exact Imp.rf):Imp P Q:=g
theorem NH40.sd{P:Prop}(g:P:=by first | (intro hx9;have h9:i<t.length:=(by simp at hx9;omega);exact⟨om,om⟩) | (intros;simp_all;done) | fail):P:=g
set_option maxHeartbeats 3200000 in
open NH40 NZ in
theorem Ld(t:List UInt8)(p:Nat)(ht:t.length≤512)(hp:p≤t.length)(H:Heap)(n:Nat):Ret prog 136 [.str t,.int .i64 p] H n (.tup [rwAV (XA t p).1,.int .i64 (XA t p).2.1,.bool (XA t p).2.2]) H n:=by
 obtain⟨r,hr⟩:∃r,r=XA t p:=⟨_,rfl⟩;rw[←hr];have hW:=hp;have hB:=hp;have hcut:=hp;have f1:(n=n+1)=False:=osi;have f2:(n+1=n)=False:=osi;refine Ret.fin ?_;refine fw func136 ntmps136 results136 ?_;refine rg zs [0,1,4] ?_;refine bk fun K1 hK1=> ?_;refine Zk (fun T' H' n'=>∃i:Nat,i≤t.length∧T'=tl [(0,.str t),(1,.int .i64 i),(4,.loc n 0 0 0 [])]∧H'=H.put n (some (.arr 0 4 [.agg [.int .u8 0,.str [],.int .i64 0,.int .i64 0]]))∧n'=n+1∧ZM (fun c=>c.toNat==32) t i=ZM (fun c=>c.toNat==32) t p) (fun T' _ _=>t.length-iv (T' 1)) ?_ ?_
 ·exact⟨p,hp,rfl,rfl,rfl,rfl⟩
 rintro T1 H1 n1 ⟨i,hi,rfl,rfl,rfl,hix⟩;refine Za fun K2 hK2=> ?_;refine rg zs [0,1,4,21] ?_;refine Zb ?_ ?_<;>intro hb
 ·have hb1:=Vw hb;have hlt:i<t.length:=by have:=of_decide_eq_true hb1.1;omega
  have hso:((t.getD i 0).toNat==32)=true:=by have h9:=hb1.2;simp at h9 ⊢;omega
  refine kaQ ?_;refine kbM ?_;refine rg1 zs [0,1,4] ?_;exact⟨⟨i+1,om,by rw[w1g hlt ht],by rw[Jw hlt hso,hix]⟩,by rw[w1g hlt ht];simp;omega⟩
 have hq:ZM (fun c=>c.toNat==32) t p=i:=by
   rw[←hix];rcases Nat.lt_or_ge i t.length with h | h
   ·rw[decide_eq_true om]at hb;exact U7 h (by have h9:=hb;simp at h9 ⊢;omega)
   ·exact U8 h
 refine ax ?_;apply hK1;refine rg zs [0,1,4,7] ?_;refine Za fun K3 hK3=> ?_;refine rg zs [0,1,4,7,29] ?_;refine Zb ?_ ?_<;>intro hb
 ·have hge:t.length≤i:=by have h9:=hb;simp at h9;omega
  have hrr:r=(⟨101,[],i,0⟩,i,true):=by rw[hr,VJ (wordF_end hq hge)];rfl
  exact kaj
 have hlt:i<t.length:=by have h9:=hb;simp at h9;omega
 have hF:=wordF_at hq hlt;obtain⟨c,hc⟩:∃c,c=t.getD i 0:=⟨_,rfl⟩;have hcl:=c.toNat_lt;rw[←hc]at hF;clear hix;obtain⟨q,rfl⟩:∃q,q=i:=⟨_,rfl⟩;refine kba ?_;refine rg zs [0,1,4,7,8] ?_;refine ZL [0,1,4,7,8] (fun T' H' n'=>∃(k e N:Nat),T'=tl [(0,.str t),(1,.int .i64 q),(4,.loc n 0 0 0 []),(7,.loc (n+1) 0 0 0 []),(8,.int .i64 e)]∧H' (n+1)=some (.arr 0 4 [.agg [.int .u8 k,.str [],.int .i64 q,.int .i64 N]])∧H' n=some (.arr 0 4 [.agg [.int .u8 0,.str [],.int .i64 0,.int .i64 0]])∧(∀k,k<n→H' k=H k)∧n'=n+2∧q≤e∧e≤t.length∧r=(⟨k,(t.take e).drop q,q,N⟩,e,decide (q<e))) ?_ ?_
 ·refine kbM ?_;refine Zg zs [0,1,4,7,8,37] fun K V=> ?_;refine kby ?_
  repeat (first | (refine And.intro ?_ ?_;· first | exact⟨om,om⟩) | refine peel ?_)
  refine Zu func147 rfl rfl rfl ((ML c _ _)) ?_;refine kby ?_;refine kad ?_;refine Zb ?_ ?_<;>intro hb
  ·rw[if_pos hb]at hF;have hsm:Wp c=true:=hb;refine bk fun K4 hK4=> ?_;refine Yl [0,1,4,7,8] ?_;simp only[go_sem,seval];refine Zk (fun T' H' n'=>∃j:Nat,q≤j∧j≤t.length∧T'=tl [(0,.str t),(1,.int .i64 q),(4,.loc n 0 0 0 []),(7,.loc (n+1) 0 0 0 []),(8,.int .i64 j)]∧H'=(H.put n (some (.arr 0 4 [.agg [.int .u8 0,.str [],.int .i64 0,.int .i64 0]]))).put (n+1) (some (.arr 0 4 [.agg [.int .u8 101,.str [],.int .i64 q,.int .i64 0]]))∧n'=n+2∧ZM Xk t j=ZM Xk t q) (fun T' _ _=>t.length-iv (T' 8)) ?_ ?_
   ·exact⟨q,Nat.le_refl _,om,rfl,rfl,rfl,rfl⟩
   rintro T1 H1 n1 ⟨j,hqj,hj,rfl,rfl,rfl,hjx⟩;refine Za fun K5 hK5=> ?_;refine rk zs [0,1,4,7,8,63] fun K V=> ?_;refine cg func147 (fun _=>(ML (t.getD j 0) _ _)) ?_;refine cg func148 (fun _=>(Vl (t.getD j 0) _ _)) ?_;refine kas ?_;refine Zb ?_ ?_<;>intro hb
   ·have hb1:=Vw hb;have hlt2:j<t.length:=by have:=of_decide_eq_true hb1.1;omega
    have hso:Xk (t.getD j 0)=true:=by rw[←nameQ_of];exact hb1.2
    refine ak ?_;apply hK5;refine kbM ?_;refine rg1 zs [0,1,4,7,8] ?_;exact⟨⟨j+1,om,om,by rw[w1g hlt2 ht],by rw[Jw hlt2 hso,hjx]⟩,by rw[w1g hlt2 ht];simp;omega⟩
   have hwn:ZM Xk t q=j:=by
     rw[←hjx];rcases Nat.lt_or_ge j t.length with h | h
     ·rw[decide_eq_true om]at hb;exact U7 h (by rw[←nameQ_of];exact hb)
     ·exact U8 h
   refine ax ?_;apply hK4;refine rg1 zs [0,1,4,7,8] ?_;refine ns ?_;exact⟨110,j,0,rfl,rfl,fun k hk=>onn,hqj,hj,by rw[hr,VJ hF];have:=U9 Xk t q;rw[hwn]at this;rw[this,hwn,decide_eq_true (hwn▸U6 (drop_at hlt) (by rw[←hc];unfold Xk;rw[hsm];rfl))];rfl⟩
  rw[if_neg (by rw[hb];simp)]at hF;refine Zg zs [0,1,4,7,8,67] fun K V=> ?_;refine kby ?_
  repeat (first | (refine And.intro ?_ ?_;· first | exact⟨om,om⟩) | refine peel ?_)
  refine Zu func148 rfl rfl rfl ((Vl c _ _)) ?_;refine kby ?_;refine kad ?_;refine Zb ?_ ?_<;>intro hb
  ·rw[if_pos hb]at hF;refine bk fun K6 hK6=> ?_;refine Yl [0,1,4,7,8] ?_;simp only[go_sem,seval];refine Zk (fun T' H' n'=>∃j:Nat,q≤j∧j≤t.length∧T'=tl [(0,.str t),(1,.int .i64 q),(4,.loc n 0 0 0 []),(7,.loc (n+1) 0 0 0 []),(8,.int .i64 j)]∧H'=(H.put n (some (.arr 0 4 [.agg [.int .u8 0,.str [],.int .i64 0,.int .i64 0]]))).put (n+1) (some (.arr 0 4 [.agg [.int .u8 101,.str [],.int .i64 q,.int .i64 (satN ((t.take j).drop q))]]))∧n'=n+2∧ZM ZA t j=ZM ZA t q) (fun T' _ _=>t.length-iv (T' 8)) ?_ ?_
   ·exact⟨q,Nat.le_refl _,om,rfl,by rw[List.drop_eq_nil_of_le (by rw[qk];omega)];rfl,rfl,rfl⟩
   rintro T1 H1 n1 ⟨j,hqj,hj,rfl,rfl,rfl,hjx⟩;refine Za fun K7 hK7=> ?_;refine rk zs [0,1,4,7,8,81] fun K V=> ?_;refine cg func148 (fun _=>(Vl (t.getD j 0) _ _)) ?_;refine kas ?_;refine Zb ?_ ?_<;>intro hb
   ·have hb1:=Vw hb;have hlt2:j<t.length:=by have:=of_decide_eq_true hb1.1;omega
    have hso:ZA (t.getD j 0)=true:=hb1.2;have hso2:=hso;unfold ZA at hso2;simp only[Bool.and_eq_true,decide_eq_true_eq]at hso2;have hsn:=satN_snoc ((t.take j).drop q) (t.getD j 0);rw[←cut_next hqj hlt2]at hsn;refine ak ?_;apply hK7;refine kbM ?_;refine Za fun K8 hK8=> ?_;refine rg zs [0,1,4,7,8,84] ?_;refine Zb ?_ ?_<;>intro hb
    ·have hN:satN ((t.take j).drop q)≤1099511627776:=ott;rw[if_pos hN]at hsn;have e3:IntKind.u8.wrap ((((t.getD j 0).toNat:Nat):Int)-48)=(((t.getD j 0).toNat-48:Nat):Int):=by rw[IntKind.wrap_u8];omega
     have e4:IntKind.i64.wrap (10*((satN ((t.take j).drop q):Nat):Int))=((10*satN ((t.take j).drop q):Nat):Int):=by rw[w64 om om];omega
     have e5:IntKind.i64.wrap ((((t.getD j 0).toNat-48:Nat):Int))=(((t.getD j 0).toNat-48:Nat):Int):=w64 om om;have e6:IntKind.i64.wrap (((10*satN ((t.take j).drop q):Nat):Int)+(((t.getD j 0).toNat-48:Nat):Int))=((satN ((t.take (j+1)).drop q):Nat):Int):=by rw[w64 om om];omega
     refine U4 rfl zs [0,1,4,7,8] [.q,.q,.q,.m,.m,.q,.q,.q,.q,.q,.w []] [0,1,2,3,4,5,6,7,8,9,10] [0,1,2,3,4,5,6,7,8,9,10] (by kernel_rfl) (fun _ _ _ _ _ h=>h) fun K V=> ?_
     try simp only[go_sem,seval,hW,hB,f1,f2,qd,e3,e4,e5,e6]
     repeat (first | (refine And.intro ?_ ?_;· first | exact⟨om,om⟩) | refine peel ?_)
     refine kas ?_;refine ns ?_;exact kbr
    have hN:¬satN ((t.take j).drop q)≤1099511627776:=otf;rw[if_neg hN]at hsn;refine ak ?_;exact kbr
   have hwn:ZM ZA t q=j:=by
     rw[←hjx];rcases Nat.lt_or_ge j t.length with h | h
     ·rw[decide_eq_true om]at hb;exact U7 h hb
     ·exact U8 h
   have hdq:ZA c=true:=by assumption
   obtain⟨hqj2,hdt,hnf⟩:=numX hwn hlt (hc▸hdq);rw[hnf]at hF;have ej:IntKind.i64.wrap ((j:Int)-(q:Int))=((j-q:Nat):Int):=by rw[w64 om om];omega
   refine ax ?_;apply hK6;refine rg zs [0,1,4,7,8] ?_;refine Zg zs [0,1,4,7,8,112] fun K V=> ?_
   try simp only[go_sem,seval,hW,hB,f1,f2,qd,ej,←hc]
   repeat (first | (refine And.intro ?_ ?_;· first | (intros;exact⟨om,om⟩) | (intros;simp_all;done)) | refine peel ?_)
   refine kas ?_;refine Zb ?_ ?_<;>intro hb
   ·have hbad : 1099511627776 < satN ((t.take j).drop q) ∨ (1 < j - q ∧ (t.getD q 0).toNat = 48) := by
      rw[←hc];by_cases h1:1099511627776<satN ((t.take j).drop q)
      ·exact .inl h1
      ·right;rw[decide_eq_false om]at hb;have h9:=Vw hb;exact⟨by have:=of_decide_eq_true h9.1;omega,by have:=h9.2;simp at this;omega⟩
    have hrr:r=(⟨100,[],q,satN ((t.take j).drop q)⟩,q,false):=by
      rw[if_pos hbad]at hF;rw[hr];unfold XA;rw[hF];simp only;rw[←hc,if_pos hdq,hdt]
    refine rg zs [4,5,6] ?_;refine ar ?_;refine⟨_,rfl,fun k hk=> ?_,Frz.eq ?_ ?_⟩
    ·(try simp only[Rl]);(repeat first | rw[if_pos rfl] | rw[if_pos trivial] | rw[if_neg om]);first | done | exact hlow k hk
    ·first | (rw[hrr];rfl) | (rw[hrr,show decide ((q:Int)<(e:Int))=decide (q<e)from decide_eq_decide.2 om];rfl)
    ·exact⟨⟨trivial,trivial,trivial,trivial,trivial⟩,trivial,trivial,trivial⟩
   have hbad:¬(1099511627776<satN ((t.take j).drop q)∨(1<j-q∧(t.getD q 0).toNat=48)):=by
     rw[←hc];rintro(h1 | ⟨h1,h2⟩)
     ·rw[decide_eq_true om]at hb;cases hb
     ·rw[decide_eq_true (by omega:(1:Int)<((j-q:Nat):Int)),show((c.toNat:Int)==48)=true by rw[h2];rfl]at hb;cases h:decide ((1099511627776:Int)<(satN ((t.take j).drop q):Int))<;>rw[h]at hb<;>cases hb
   rw[if_neg hbad]at hF;refine ak ?_;refine ns ?_;exact⟨100,j,_,rfl,rfl,fun k hk=>onn,hqj,hj,by rw[hr,VJ hF,decide_eq_true hqj2];rfl⟩
  rw[if_neg (by rw[hb];simp)]at hF;have hdg:ZA c=false:=hb;refine Zg zs [0,1,4,7,115] fun K V=> ?_;refine kby ?_
  repeat (first | (refine And.intro ?_ ?_;· first | exact⟨om,om⟩) | refine peel ?_)
  refine kas ?_;refine Zb ?_ ?_<;>intro hb
  ·have k0:c.toNat=34:=by have h9:=hb;simp at h9;omega
   rw[if_pos k0]at hF;have hrr:r=(⟨115,(VB t q).1,q,0⟩,(VB t q).2.1,(VB t q).2.2):=by
     rw[hr];cases hs:strF t q with
     | none=>rw[hs]at hF;unfold XA VB;rw[hF,hs];simp only;rw[←hc,if_neg (by rw[hdg];simp),if_pos k0]
     | some x=>rw[hs]at hF;obtain⟨y1,y2,y3⟩:=strF_kind hs;rw[VJ hF];unfold VB rwd;rw[hs,y1,y2,y3];rfl
   refine rc zs [4,7,9,10,11] func149 ((M4 t q ht hlt _ _)) ?_;refine rg zs [4,7,9,10,11] ?_;refine rg zs [4,7,10,11] ?_;exact kaj
  have k0:¬c.toNat=34:=by have h9:=hb;simp at h9;omega
  rw[if_neg k0]at hF;refine rc zs [0,1,4,7,8] func150 ((c_ref13_sign t q ht hlt _ _)) ?_;refine rg1 zs [0,1,4,7,8] ?_;refine ns ?_
  first
  | (obtain ⟨u1, u2⟩ := sign_cut (t := t) hlt; exact ⟨103, q + QV t q, 0, rfl, rfl, fun k hk => onn, om, u1, by
      replace hF:=hF.trans u2;rw[hr];by_cases hz:0<QV t q
      ·rw[if_pos hz]at hF;rw[VJ hF,decide_eq_true om];rfl
      ·rw[if_neg hz]at hF;unfold XA;rw[hF];simp only;rw[←hc,if_neg (by rw[hdg];simp),if_neg k0,decide_eq_false om,show QV t q=0 by omega,Nat.add_zero,List.drop_eq_nil_of_le (by rw[qk];omega)]⟩)
 rintro T1 H1 n1 ⟨k,e,N,rfl,hW,hB,hlow,rfl,hqe,het,hrr⟩;refine Zg zs [1,4,7,8] fun K V=> ?_
 try simp only[go_sem,seval,hW,hB,f1,f2,qd,Option.getD_some]
 repeat (first | (refine And.intro ?_ ?_;· first | exact⟨om,om,om⟩) | refine peel ?_)
 refine kas ?_;exact kaj
end Go.Proofs.YtkmkbndcekklmaaGreatDoor
namespace Go.Rt
open Go Go.Sx
structure Ro where
 w:RWd
 p:Nat
 o:Nat
 bad:Int
def Ro.av(fs:List Fml)(t:List UInt8)(s:Ro):AV:=roAV fs t s.w s.p s.o s.bad
def Ro.obj(fs:List Fml)(t:List UInt8)(s:Ro):AObj:= .arr 0 9 [s.av fs t]
inductive CR where
 | nd (kind:List UInt8) (l:List CR) (sign text:List UInt8) (num:Int)
mutual
def CR.av:CR→AV
 | .nd k l s t n=> .agg [.str k,.sl 5 (RA l),.str s,.str t,.int .i64 n]
def RA:List CR→List AV
 | []=>[]
 | c::l=>c.av::RA l
end
theorem Rw:∀l:List CR,RA l=l.map CR.av
 | []=>rfl
 | c::l=>by rw[RA,List.map_cons,Rw l]
def CR.none:CR:= .nd [] [] [] [] 0
def YL(s:Ro)(a:Int):Ro:=if s.bad<0 then{s with bad:=a}else s
def Y2(t:List UInt8)(s:Ro):Ro:=YL s (if s.w.kind=101 then t.length else s.w.pos)
def Zl(t:List UInt8)(s:Ro):Ro:=
 if (XA t s.p).2.2 then{s with w:=(XA t s.p).1,p:=(XA t s.p).2.1}else YL {s with w:=(XA t s.p).1,p:=(XA t s.p).2.1} (XA t s.p).1.pos
def isB(k:Nat)(w:List UInt8)(s:Ro):Bool:=decide (s.bad<0)&&s.w.kind==k&&s.w.text==w
def isS(t:List UInt8)(k:Nat)(w:List UInt8)(s:Ro):Ro:=if isB k w s then Zl t s else s
def wIn:List UInt8:=[105,110]
def mayS(k:List UInt8):List (List UInt8):=if k=wFam then sEq else if k=wTs then sCmp else sAll
def agK(k:List UInt8):Nat:=if k=wFam then 110 else if k=wTs then 100 else 115
def WH(fs:List Fml)(t:List UInt8)(s:Ro):CR×Ro:=
 if 0≤s.bad then(.nd s.w.text [] [] [] 0,s)
 else if s.w.kind≠110∨s.w.text∉[wFam,Y1,YG,wTs]then(.nd s.w.text [] [] [] 0,Y2 t s)
 else if 0≤(Zl t s).bad then(.nd s.w.text [] [] [] 0,Zl t s)
 else if (Zl t s).w.kind≠103∨(Zl t s).w.text∉mayS s.w.text then(.nd s.w.text [] (Zl t s).w.text [] 0,Y2 t (Zl t s))
 else if 0≤(Zl t (Zl t s)).bad then(.nd s.w.text [] (Zl t s).w.text [] 0,Zl t (Zl t s))
 else if (Zl t (Zl t s)).w.kind≠agK s.w.text∨(s.w.text=wFam∧famF fs (Zl t (Zl t s)).w.text<0)then
   (.nd s.w.text [] (Zl t s).w.text (Zl t (Zl t s)).w.text (Zl t (Zl t s)).w.num,Y2 t (Zl t (Zl t s)))
 else(.nd s.w.text [] (Zl t s).w.text (Zl t (Zl t s)).w.text (Zl t (Zl t s)).w.num,Zl t (Zl t (Zl t s)))
mutual
def Yh(fs:List Fml)(t:List UInt8)(f:Nat)(s:Ro):CR×Ro:=match f with
 | 0=>(.none,YL s s.w.pos)
 | f+1=>(.nd wOr (orsR fs t (f+1) [] s).1 [] [] 0,(orsR fs t (f+1) [] s).2)
termination_by (f,3)
def orsR(fs:List Fml)(t:List UInt8)(f:Nat)(l:List CR)(s:Ro):List CR×Ro:=match f with
 | 0=>(l,YL s s.w.pos)
 | f + 1 => if s.bad < 0 then
     if isB 110 wOr (Ym fs t f s).2 then orsR fs t f (l++[(Ym fs t f s).1]) (isS t 110 wOr (Ym fs t f s).2)else(l++[(Ym fs t f s).1],(Ym fs t f s).2)
   else(l,s)
termination_by (f,2)
def Ym(fs:List Fml)(t:List UInt8)(f:Nat)(s:Ro):CR×Ro:=match f with
 | 0=>(.none,YL s s.w.pos)
 | f+1=>(.nd wAnd (YN fs t (f+1) [] s).1 [] [] 0,(YN fs t (f+1) [] s).2)
termination_by (f,3)
def YN(fs:List Fml)(t:List UInt8)(f:Nat)(l:List CR)(s:Ro):List CR×Ro:=match f with
 | 0=>(l,YL s s.w.pos)
 | f + 1 => if s.bad < 0 then
     if isB 110 wAnd (ZV fs t f s).2 then YN fs t f (l++[(ZV fs t f s).1]) (isS t 110 wAnd (ZV fs t f s).2)else(l++[(ZV fs t f s).1],(ZV fs t f s).2)
   else(l,s)
termination_by (f,2)
def ZV(fs:List Fml)(t:List UInt8)(f:Nat)(s:Ro):CR×Ro:=match f with
 | 0=>(.none,YL s s.w.pos)
 | f+1=>
   if isB 110 wNot s then
     if 16<(Zl t s).o+1 then(.none,{Zl t s with o:=(Zl t s).o+1,bad:=s.w.pos})
     else(.nd wNot [(ZV fs t f {Zl t s with o:=(Zl t s).o+1}).1] [] [] 0,
       {(ZV fs t f {Zl t s with o:=(Zl t s).o+1}).2 with o:=(ZV fs t f {Zl t s with o:=(Zl t s).o+1}).2.o-1})
   else if isB 103 [40] s then
     if 16<(Zl t s).o+1 then(.none,{Zl t s with o:=(Zl t s).o+1,bad:=s.w.pos})
     else
       let x:=Yh fs t f {Zl t s with o:=(Zl t s).o+1}
       let z:=if (isS t 103 [41] x.2).bad<0∧isB 103 [41] x.2=false then Y2 t (isS t 103 [41] x.2)else isS t 103 [41] x.2
       (.nd wIn [x.1] [] [] 0,{z with o:=z.o-1})
   else WH fs t s
termination_by (f,1)
end
def Ro.m(t:List UInt8)(s:Ro):Nat:=if s.bad<0 then(t.length-s.p)+(if s.w.kind=101 then 0 else 1)else 0
structure RI(t:List UInt8)(s:Ro):Prop where
 p:s.p≤t.length
 o:s.o≤17
 g:s.bad<0→s.o≤16
structure Rgo(t:List UInt8)(s r:Ro):Prop where
 p:r.p≤t.length
 o:s.o≤r.o
 o2:r.o≤s.o+1
 g:r.bad<0→r.o=s.o
 m:r.m t≤s.m t
section
variable {t:List UInt8}{s r:Ro}
theorem Rgo.ri(h:Rgo t s r)(hs:RI t s)(hb:s.bad<0):RI t r:=⟨h.p,by have:=h.o2;have:=hs.g hb;omega,fun hr=>by have:=h.g hr;have:=hs.g hb;omega⟩
theorem Rgo.refl(hs:s.p≤t.length):Rgo t s s:=⟨hs,Nat.le_refl _,om,fun _=>rfl,Nat.le_refl _⟩
theorem Rgo.trans{a:Ro}(h:Rgo t s a)(ha:a.bad<0)(h2:Rgo t a r):Rgo t s r:=by
 have e:=h.g ha;exact⟨h2.p,by have:=h2.o;omega,by have:=h2.o2;omega,fun hr=>by have:=h2.g hr;omega,Nat.le_trans h2.m h.m⟩
theorem X7(s:Ro)(a:Int):(YL s a).p=s.p∧(YL s a).o=s.o∧(YL s a).w=s.w:=by unfold YL;split<;>exact⟨rfl,rfl,rfl⟩
theorem failR_bad(s:Ro){a:Int}(ha:0≤a):0≤(YL s a).bad:=by unfold YL;split;exact ha;omega
theorem wordX_le(ht:t.length≤512){p:Nat}(hp:p≤t.length):(XA t p).2.1≤t.length:=by
 cases h:XU t p with
 | ok x=>rw[VJ h];exact(UK ht hp h).2.1
 | error a=>
   unfold XA;rw[h];have ha:a≤t.length:=by
     have hq:=XK (fun c=>c.toNat==32) t p hp;unfold XU at h;simp only at h;split at h
     ·cases h
     ·split at h
      ·cases h
      ·split at h
       ·split at h<;>cases h;exact hq.2
       ·split at h
        ·split at h<;>cases h;exact hq.2
        ·split at h<;>cases h;exact hq.2
   simp only;split
   ·exact ha
   ·split
    ·simp
    ·exact ha
theorem Y5(t:List UInt8)(s:Ro):(Zl t s).o=s.o:=by
 unfold Zl;split
 ·rfl
 ·exact(X7 _ _).2.1
theorem Qk(ht:t.length≤512)(hs:s.p≤t.length):(Zl t s).p≤t.length:=by
 unfold Zl;split
 ·exact wordX_le ht hs
 ·rw[(X7 _ _).1];exact wordX_le ht hs
theorem nextR_err{a:Nat}(h:XU t s.p= .error a)(hb:s.bad<0):(Zl t s).bad=a:=by
 obtain⟨e1,e2⟩:=wordX_pos h;unfold Zl;rw[e2,if_neg osi];unfold YL;rw[if_pos hb,e1]
theorem nextR_ok{x:Wd×Nat}(h:XU t s.p= .ok x):Zl t s={s with w:=rwd x.1,p:=x.2}:=by
 unfold Zl;rw[VJ h];rfl
theorem nextR_m(ht:t.length≤512)(hs:s.p≤t.length)(hb:s.bad<0)(hk:s.w.kind≠101):(Zl t s).m t+1≤s.m t:=by
 have h0:s.m t=t.length-s.p+1:=by unfold Ro.m;rw[if_pos hb,if_neg hk]
 cases h:XU t s.p with
 | ok x=>
   obtain⟨w,q⟩:=x;obtain⟨h1,h2,h3,h4,_⟩:=UK ht hs h;rw[nextR_ok h,h0];unfold Ro.m;rw[if_pos hb];by_cases k:w.kind=0
   ·rw[if_pos (show(rwd w).kind=101 by simp[rwd,Ui,k])];have:=h3 k;simp only;omega
   ·have:=h4 k;simp only;split<;>omega
 | error a=>
   have hz:=nextR_err h hb;unfold Ro.m at h0 ⊢;rw[if_neg om];omega
theorem UW(ht:t.length≤512)(hs:s.p≤t.length)(hb:s.bad<0)(hk:s.w.kind≠101):Rgo t s (Zl t s):=
 ⟨Qk ht hs,by rw[Y5];omega,by rw[Y5];omega,fun _=>Y5 t s,by have:=nextR_m ht hs hb hk;omega⟩
theorem Jv(hs:s.p≤t.length):Rgo t s (Y2 t s):=by
 have h:=X7 s (if s.w.kind=101 then(t.length:Int)else s.w.pos);have hbad:0≤(Y2 t s).bad:=failR_bad s (by split<;>omega);refine⟨by unfold Y2;rw[h.1];exact hs,by unfold Y2;rw[h.2.1];omega,by unfold Y2;rw[h.2.1];omega,fun hb=>om,?_⟩;unfold Ro.m;rw[if_neg om];omega
theorem XH{k:Nat}{w:List UInt8}(h:isB k w s=true):s.bad<0∧s.w.kind=k∧s.w.text=w:=by
 unfold isB at h;simp only[Bool.and_eq_true,decide_eq_true_eq,beq_iff_eq]at h;exact⟨h.1.1,h.1.2,h.2⟩
theorem L6(ht:t.length≤512)(hs:s.p≤t.length){k:Nat}(hk:k≠101){w:List UInt8}:Rgo t s (isS t k w s):=by
 unfold isS;split
 ·rename_i h;obtain⟨h1,h2,_⟩:=XH h;exact UW ht hs h1 om
 ·exact .refl hs
theorem isS_m(ht:t.length≤512)(hs:s.p≤t.length){k:Nat}(hk:k≠101){w:List UInt8}(h:isB k w s=true):(isS t k w s).m t+1≤s.m t:=by
 unfold isS;rw[if_pos h];obtain⟨h1,h2,_⟩:=XH h;exact nextR_m ht hs h1 om
theorem testR_go{fs:List Fml}(ht:t.length≤512)(hs:s.p≤t.length):Rgo t s (WH fs t s).2:=by
 have n1:=fun hb hk=>UW (s:=s) ht hs hb hk;have np1:=Qk ht hs;have n2:=fun hb hk=>UW (s:=Zl t s) ht np1 hb hk;have np2:=Qk ht np1;have n3:=fun hb hk=>UW (s:=Zl t (Zl t s)) ht np2 hb hk;unfold WH;generalize Zl t s=s1 at*;generalize Zl t s1=s2 at*;generalize Zl t s2=s3 at*;by_cases hb:0≤s.bad
 ·rw[if_pos hb];exact .refl hs
 rw[if_neg hb];by_cases hk:s.w.kind≠110∨s.w.text∉[wFam,Y1,YG,wTs]
 ·rw[if_pos hk];exact Jv hs
 rw[if_neg hk];have hk1:s.w.kind=110:=Classical.byContradiction fun e=>hk (.inl e);have g1:=n1 om om;by_cases hb1:0≤s1.bad
 ·rw[if_pos hb1];exact g1
 rw[if_neg hb1];by_cases hk2:s1.w.kind≠103∨s1.w.text∉mayS s.w.text
 ·rw[if_pos hk2];exact g1.trans om (Jv g1.p)
 rw[if_neg hk2];have hk3:s1.w.kind=103:=Classical.byContradiction fun e=>hk2 (.inl e);have g2:=n2 om om;by_cases hb2:0≤s2.bad
 ·rw[if_pos hb2];exact g1.trans om g2
 rw[if_neg hb2];by_cases hk4:s2.w.kind≠agK s.w.text∨(s.w.text=wFam∧famF fs s2.w.text<0)
 ·rw[if_pos hk4];exact(g1.trans om g2).trans om (Jv g2.p)
 rw[if_neg hk4];have hk5:s2.w.kind≠101:=fun e=>hk4 (.inl (by rw[e];unfold agK;split;omega;split<;>omega));exact(g1.trans om g2).trans om (n3 om hk5)
end
theorem Ll{t:List UInt8}{s:Ro}(hs:s.p≤t.length):Rgo t s (YL s s.w.pos):=by
 have h:=X7 s (s.w.pos:Int);have hbad:0≤(YL s (s.w.pos:Int)).bad:=failR_bad s om;refine⟨by rw[h.1];exact hs,by rw[h.2.1];omega,by rw[h.2.1];omega,fun hb=>om,?_⟩;unfold Ro.m;rw[if_neg om];omega
theorem VZ{fs : List Fml}{t : List UInt8}(ht : t.length ≤ 512): ∀ f, (∀ s, s.p ≤ t.length → Rgo t s (Yh fs t f s).2) ∧ (∀ l s, s.p ≤ t.length → Rgo t s (orsR fs t f l s).2) ∧
   (∀s,s.p≤t.length→Rgo t s (Ym fs t f s).2)∧(∀l s,s.p≤t.length→Rgo t s (YN fs t f l s).2)∧(∀s,s.p≤t.length→Rgo t s (ZV fs t f s).2):=by
 intro f
 induction f with
 | zero=>exact⟨fun s hs=>by unfold Yh;exact Ll hs,fun l s hs=>by unfold orsR;exact Ll hs,fun s hs=>by unfold Ym;exact Ll hs,fun l s hs=>by unfold YN;exact Ll hs,fun s hs=>by unfold ZV;exact Ll hs⟩
 | succ f ih=>
   obtain⟨i1,i2,i3,i4,i5⟩:=ih;have ors:∀l s,s.p≤t.length→Rgo t s (orsR fs t (f+1) l s).2:=fun l s hs=>by
     rw[orsR];have g:=i3 s hs;split
     ·split
      ·rename_i h;obtain⟨h1,h2,_⟩:=XH h;have g2:=L6 ht g.p (by decide:110≠101) (w:=wOr);by_cases hb:(isS t 110 wOr (Ym fs t f s).2).bad<0
       ·exact(g.trans h1 g2).trans hb (i2 _ _ g2.p)
       ·have:=i2 (l++[(Ym fs t f s).1]) (isS t 110 wOr (Ym fs t f s).2) g2.p;have e:(orsR fs t f (l++[(Ym fs t f s).1]) (isS t 110 wOr (Ym fs t f s).2)).2.o≤(isS t 110 wOr (Ym fs t f s).2).o:=by
          cases f with
          | zero=>unfold orsR;rw[(X7 _ _).2.1];exact Nat.le_refl _
          | succ f=>rw[orsR,if_neg hb];simp
        have e2:(isS t 110 wOr (Ym fs t f s).2).o=(Ym fs t f s).2.o:=by unfold isS;rw[if_pos h];exact Y5 _ _
        exact kbG
      ·exact g
     ·exact .refl hs
   have ands:∀l s,s.p≤t.length→Rgo t s (YN fs t (f+1) l s).2:=fun l s hs=>by
     rw[YN];have g:=i5 s hs;split
     ·split
      ·rename_i h;obtain⟨h1,h2,_⟩:=XH h;have g2:=L6 ht g.p (by decide:110≠101) (w:=wAnd);by_cases hb:(isS t 110 wAnd (ZV fs t f s).2).bad<0
       ·exact(g.trans h1 g2).trans hb (i4 _ _ g2.p)
       ·have:=i4 (l++[(ZV fs t f s).1]) (isS t 110 wAnd (ZV fs t f s).2) g2.p;have e:(YN fs t f (l++[(ZV fs t f s).1]) (isS t 110 wAnd (ZV fs t f s).2)).2.o≤(isS t 110 wAnd (ZV fs t f s).2).o:=by
          cases f with
          | zero=>unfold YN;rw[(X7 _ _).2.1];exact Nat.le_refl _
          | succ f=>rw[YN,if_neg hb];simp
        have e2:(isS t 110 wAnd (ZV fs t f s).2).o=(ZV fs t f s).2.o:=by unfold isS;rw[if_pos h];exact Y5 _ _
        exact kbG
      ·exact g
     ·exact .refl hs
   refine⟨fun s hs=>by unfold Yh;exact ors [] s hs,ors,fun s hs=>by unfold Ym;exact ands [] s hs,ands,fun s hs=> ?_⟩;have dec:∀{s r:Ro},Rgo t {s with o:=s.o+1} r→Rgo t s {r with o:=r.o-1}:=fun{s r} h=>
     ⟨h.p,by have:=h.o;simp only at this ⊢;omega,by have:=h.o2;simp only at this ⊢;omega,fun hr=>by have:=h.g hr;simp only at this ⊢;omega,h.m⟩
   have deep:∀{a:Int} {s:Ro},s.p≤t.length→0≤a→Rgo t s {s with o:=s.o+1,bad:=a}:=fun{a s} h ha=>
     ⟨h,osi,osi,fun hr=>by simp only at hr;omega,by unfold Ro.m;simp only;rw[if_neg om];omega⟩
   have up:∀{s a r:Ro},Rgo t s a→a.o=s.o→Rgo t a r→Rgo t s r:=fun{s a r} h e h2=>
     ⟨h2.p,by have:=h2.o;omega,by have:=h2.o2;omega,fun hr=>by have:=h2.g hr;omega,Nat.le_trans h2.m h.m⟩
   rw[ZV];split
   ·rename_i h;obtain⟨h1,h2,_⟩:=XH h;have g:=UW ht hs h1 om;split
    ·exact up g (Y5 t s) (deep g.p om)
    ·exact up g (Y5 t s) (dec (i5 {Zl t s with o:=(Zl t s).o+1} g.p))
   ·split
    ·rename_i h;obtain⟨h1,h2,_⟩:=XH h;have g:=UW ht hs h1 om;split
     ·exact up g (Y5 t s) (deep g.p om)
     ·refine up g (Y5 t s) (dec ?_);have g3:=i1 {Zl t s with o:=(Zl t s).o+1} g.p;have g4:=L6 ht g3.p (by decide:103≠101) (w:=[41]);have e2:(isS t 103 [41] (Yh fs t f {Zl t s with o:=(Zl t s).o+1}).2).o=(Yh fs t f {Zl t s with o:=(Zl t s).o+1}).2.o:=by unfold isS;split;exact Y5 _ _;rfl
      have g5:Rgo t {Zl t s with o:=(Zl t s).o+1} (isS t 103 [41] (Yh fs t f {Zl t s with o:=(Zl t s).o+1}).2):=
        ⟨g4.p,by have:=g3.o;omega,by have:=g3.o2;omega,fun hr=>by
          by_cases hb:isB 103 [41] (Yh fs t f {Zl t s with o:=(Zl t s).o+1}).2=true
          ·have:=g3.g (XH hb).1;omega
          ·unfold isS at hr ⊢;rw[if_neg hb]at hr ⊢;exact g3.g hr,Nat.le_trans g4.m g3.m⟩
      simp only;split
      ·rename_i hz;exact g5.trans hz.1 (Jv g5.p)
      ·exact g5
    ·exact testR_go ht hs
structure WdOK(t:List UInt8)(w:Wd):Prop where
 e:w.kind=0→w.pos=t.length
 n:w.kind=1→∃c l,w.text=c::l∧Wp c=true
 s:w.kind=4→w.text∈YO
theorem wordF_WdOK{t:List UInt8}{p q:Nat}(hp:p≤t.length){w:Wd}(h:XU t p= .ok (w,q)):WdOK t w:=by
 have hq:=XK (fun c=>c.toNat==32) t p hp;unfold XU at h;simp only at h;split at h
 ·rename_i hd;cases h;refine⟨fun _=> ?_,fun k=>(by cases k),fun k=>(by cases k)⟩;have:=List.drop_eq_nil_iff.1 hd;simp only;omega
 ·rename_i c l hd;split at h
  ·rename_i hc;cases h;exact⟨fun k=>(by cases k),fun _=>⟨c,l.takeWhile Xk,(by rw[hd,List.takeWhile_cons,if_pos (by unfold Xk;rw[hc];rfl)]),hc⟩,fun k=>(by cases k)⟩
  ·split at h
   ·split at h
    ·rename_i x hx;cases h;unfold numF at hx;simp only at hx;split at hx
     ·cases hx
     ·cases hx;exact⟨fun k=>(by cases k),fun k=>(by cases k),fun k=>(by cases k)⟩
    ·cases h
   ·split at h
    ·split at h
     ·rename_i x hx;cases h;unfold strF at hx;obtain⟨y,_,hy⟩:=Option.map_eq_some_iff.1 hx;cases hy;exact⟨fun k=>(by cases k),fun k=>(by cases k),fun k=>(by cases k)⟩
     ·cases h
    ·split at h
     ·rename_i s hs;cases h;exact⟨fun k=>(by cases k),fun k=>(by cases k),fun _=>List.mem_of_find?_eq_some hs⟩
     ·cases h
def toR(s:Qst):Ro:=⟨rwd s.nxt,s.far,s.deep,-1⟩
theorem wordF_kind{t:List UInt8}{p q:Nat}{w:Wd}(h:XU t p= .ok (w,q)):w.kind≤4:=by
 unfold XU at h;simp only at h;split at h
 ·cases h;simp
 ·split at h
  ·cases h;simp
  ·split at h
   ·split at h
    ·rename_i x hx;cases h;unfold numF at hx;simp only at hx;split at hx
     ·cases hx
     ·cases hx;simp
    ·cases h
   ·split at h
    ·split at h
     ·rename_i x hx;cases h;unfold strF at hx;obtain⟨y,_,hy⟩:=Option.map_eq_some_iff.1 hx;cases hy;simp
     ·cases h
    ·split at h
     ·cases h;simp
     ·cases h
structure QsOK(t:List UInt8)(s:Qst):Prop where
 w:WdOK t s.nxt
 p:s.far≤t.length
 k:s.nxt.kind≤4
section
variable {t:List UInt8}{s:Qst}
theorem stepF_rel(ht : t.length ≤ 512)(hs : s.far ≤ t.length): match Ue t s with
   | .ok s'=>Zl t (toR s)=toR s'∧QsOK t s'∧s'.deep=s.deep
   | .error p=>(Zl t (toR s)).bad=p∧(Zl t (toR s)).o=s.deep:=by
 unfold Ue;cases h:XU t s.far with
 | ok x=>exact⟨nextR_ok (s:=toR s) h,⟨wordF_WdOK (q:=x.2) (w:=x.1) hs h,(UK (w:=x.1) (q:=x.2) ht hs h).2.1,wordF_kind (w:=x.1) (q:=x.2) h⟩,rfl⟩
 | error a=>exact⟨nextR_err (s:=toR s) h (by simp[toR]),Y5 t _⟩
theorem takeF_rel(ht : t.length ≤ 512)(hs : s.far ≤ t.length): match YK t s with
   | .ok x=>Zl t (toR s)=toR x.2∧QsOK t x.2∧x.2.deep=s.deep∧x.1=s.nxt
   | .error p=>(Zl t (toR s)).bad=p∧(Zl t (toR s)).o=s.deep:=by
 have h:=stepF_rel (s:={s with out:=s.out++[s.nxt]}) ht hs;unfold YK;cases e:Ue t {s with out:=s.out++[s.nxt]}with
 | ok y=>rw[e]at h;exact⟨h.1,h.2.1,h.2.2,rfl⟩
 | error a=>rw[e]at h;exact h
theorem VL(ht:t.length≤512)(hs:s.far≤t.length){x:Wd×Qst}(h:YK t s= .ok x):Zl t (toR s)=toR x.2∧QsOK t x.2∧x.2.deep=s.deep∧x.1=s.nxt:=by
 have:=takeF_rel (s:=s) ht hs;rw[h]at this;exact this
theorem VM(ht:t.length≤512)(hs:s.far≤t.length){p:Nat}(h:YK t s= .error p):(Zl t (toR s)).bad=p:=by
 have:=takeF_rel (s:=s) ht hs;rw[h]at this;exact this.1
theorem VR(k:Nat):(Ui k=101↔k=0)∧(Ui k=110↔k=1)∧(Ui k=100↔k=2)∧(Ui k=115↔k=3):=by
 unfold Ui;by_cases h0:k=0
 ·subst h0;decide
 by_cases h1:k=1
 ·subst h1;decide
 by_cases h2:k=2
 ·subst h2;decide
 by_cases h3:k=3
 ·subst h3;decide
 simp[h0,h1,h2,h3]
theorem LF{k:Nat}:Ui k=103↔4≤k:=by
 unfold Ui;by_cases h0:k=0
 ·subst h0;decide
 by_cases h1:k=1
 ·subst h1;decide
 by_cases h2:k=2
 ·subst h2;decide
 by_cases h3:k=3
 ·subst h3;decide
 simp[h0,h1,h2,h3];omega
theorem UJ(h:WdOK t s.nxt):(Y2 t (toR s)).bad=s.nxt.pos:=by
 have e1:=(VR s.nxt.kind).1;unfold Y2 YL;rw[if_pos (by simp[toR])];by_cases h0:(toR s).w.kind=101
 ·rw[if_pos h0,h.e (e1.1 h0)]
 ·rw[if_neg h0];rfl
theorem JD(h:WdOK t s.nxt){w:List UInt8}(hw:w∉YO):isB 110 w (toR s)=isF s w:=by
 unfold isB isF toR rwd;simp only;by_cases h1:s.nxt.kind=1
 ·simp[h1,Ui]
 ·have e1:(Ui s.nxt.kind==110)=false:=by rw[beq_eq_false_iff_ne];exact fun e=>h1 ((VR _).2.1.1 e)
  rw[e1];by_cases h4:s.nxt.kind=4
  ·have:(s.nxt.text==w)=false:=by rw[beq_eq_false_iff_ne];intro e;exact hw (e▸h.s h4)
   rw[this];simp
  ·simp[h1,h4]
theorem Nh(h:WdOK t s.nxt)(hk:s.nxt.kind≤4){c:UInt8}(hc:Wp c=false)(l:List UInt8):isB 103 (c::l) (toR s)=isF s (c::l):=by
 unfold isB isF toR rwd;simp only;by_cases h4:s.nxt.kind=4
 ·simp[h4,Ui]
 ·have e1:(Ui s.nxt.kind==103)=false:=by rw[beq_eq_false_iff_ne];exact fun e=>h4 (by have:=LF.1 e;omega)
  rw[e1];by_cases h1:s.nxt.kind=1
  ·obtain⟨d,m,e,hd⟩:=h.n h1;have:(s.nxt.text==c::l)=false:=by rw[beq_eq_false_iff_ne,e];intro e2;cases e2;rw[hc]at hd;cases hd
   rw[this];simp
  ·simp[h1,h4]
end
def Xl(op:Tst→Tst→Tst):List Tst→Tst
 | []=> .ts [] 0
 | a::l=>l.foldl op a
theorem foldT_snoc(op:Tst→Tst→Tst)(l:List Tst)(a:Tst):Xl op (l++[a])=if l=[]then a else op (Xl op l) a:=by
 cases l with
 | nil=>rfl
 | cons b l=>simp[Xl]
mutual
def CR.tst(fs:List Fml):CR→Tst
 | .nd k l s t n=>if k=wOr then Xl .or (Rs fs l)else if k=wAnd then Xl .and (Rs fs l)else if k=wNot then .not (Xl .or (Rs fs l))else if k=wIn then Xl .or (Rs fs l)
   else if k=wFam then .fam (famF fs t) s else if k=wTs then .ts s n.toNat else .cmp (k==Y1) s t
def Rs(fs:List Fml):List CR→List Tst
 | []=>[]
 | c::l=>c.tst fs::Rs fs l
end
theorem Rz(fs:List Fml):∀l:List CR,Rs fs l=l.map (CR.tst fs)
 | []=>rfl
 | c::l=>by rw[Rs,List.map_cons,Rz fs l]
def kdOf(k:List UInt8):Nat:=if k=wFam then 1 else if k=wTs then 2 else 3
def mkT(fs:List Fml)(k sg:List UInt8)(w:Wd):Tst:=if k=wFam then .fam (famF fs w.text) sg else if k=wTs then .ts sg w.num else .cmp (k==Y1) sg w.str
def testM(fs:List Fml)(t k:List UInt8)(s:Qst):Except Nat (Tst×Qst):=
 (JV t (mayS k) s).bind fun y=>if y.2.nxt.kind≠kdOf k∨(k=wFam∧famF fs y.2.nxt.text<0)then .error y.2.nxt.pos else(YK t y.2).map fun z=>(mkT fs k y.1 y.2.nxt,z.2)
def ws4:List (List UInt8):=[wFam,Y1,YG,wTs]
theorem LA{t:List UInt8}{s:Qst}{x:Wd×Qst}(h:YK t s= .ok x):x.1=s.nxt:=by
 unfold YK at h;cases hs:Ue t {s with out:=s.out++[s.nxt]}with
 | ok y=>rw[hs]at h;cases h;rfl
 | error a=>rw[hs]at h;cases h
theorem wantM{fs : List Fml}{t k sg : List UInt8}{s : Qst}{n : Nat}(hn : kdOf k = n)(hk : k ≠ wFam):
   ((Kt t n s).map fun z=>(mkT fs k sg z.1,z.2))=(if s.nxt.kind≠kdOf k∨(k=wFam∧famF fs s.nxt.text<0)then .error s.nxt.pos else(YK t s).map fun z=>(mkT fs k sg s.nxt,z.2)):=by
 unfold Kt;by_cases h:s.nxt.kind=n
 ·rw[if_pos h,if_neg (by rintro(q | q);exact q (h.trans hn.symm);exact hk q.1)];cases ht:YK t s with
  | ok x=>rw[WU,WU,LA ht]
  | error a=>rfl
 ·rw[if_neg h,if_pos (.inl (by rw[hn];exact h))];rfl
theorem testF_M(fs:List Fml)(t:List UInt8)(s:Qst):JU fs t s=if isF s wFam∨isF s Y1∨isF s YG∨isF s wTs then(YK t s).bind fun x=>testM fs t s.nxt.text x.2 else .error s.nxt.pos:=by
 have tx:∀w,isF s w=true→s.nxt.text=w:=fun w h=>by unfold isF at h;simp only[Bool.and_eq_true,beq_iff_eq]at h;exact h.2
 unfold JU;by_cases h1:isF s wFam=true
 ·rw[if_pos h1,if_pos (.inl h1),tx _ h1];congr 1;funext x;unfold testM;rw[show mayS wFam=sEq from rfl];congr 1;funext y;rw[show kdOf wFam=1 from rfl];simp only[true_and];rfl
 ·rw[if_neg h1];by_cases h2:isF s Y1=true∨isF s YG=true
  ·rw[if_pos h2,if_pos (by rcases h2 with h | h<;>simp[h])];rcases h2 with h2 | h2
   ·rw[tx _ h2];cases ht:YK t s with
    | error a=>rfl
    | ok x=>
      rw[ZY,ZY,LA ht,tx _ h2];unfold testM;rw[show mayS Y1=sAll from rfl];congr 1;funext y;exact wantM (k:=Y1) rfl odc
   ·rw[tx _ h2];cases ht:YK t s with
    | error a=>rfl
    | ok x=>
      rw[ZY,ZY,LA ht,tx _ h2];unfold testM;rw[show mayS YG=sAll from rfl];congr 1;funext y;exact wantM (k:=YG) rfl odc
  ·rw[if_neg h2];by_cases h3:isF s wTs=true
   ·rw[if_pos h3,if_pos (by simp[h3]),tx _ h3];congr 1;funext x;unfold testM;rw[show mayS wTs=sCmp from rfl];congr 1;funext y;exact wantM (k:=wTs) rfl odc
   ·rw[if_neg h3,if_neg (by rintro(h | h | h | h);exact h1 h;exact h2 (.inl h);exact h2 (.inr h);exact h3 h)]
section
variable {fs:List Fml}{t:List UInt8}{s:Qst}
theorem Nb(s:Qst):¬(0:Int)≤(toR s).bad:=by simp[toR]
theorem toR_kind(s:Qst):(toR s).w.kind=Ui s.nxt.kind:=rfl
theorem VK(h:s.nxt.kind≠3):(toR s).w.text=s.nxt.text:=by show(if s.nxt.kind=3 then _ else _)=_;rw[if_neg h]
theorem ws4_sg:∀w∈ws4,w∉YO:=odc
theorem testF_rel(ht : t.length ≤ 512)(hq : QsOK t s): match JU fs t s with
   | .ok x=>(WH fs t (toR s)).2=toR x.2∧(WH fs t (toR s)).1.tst fs=x.1∧QsOK t x.2∧x.2.deep=s.deep
   | .error p=>(WH fs t (toR s)).2.bad=p:=by
 rw[testF_M];unfold WH;rw[if_neg (Nb s)];have e:∀w∈ws4,isB 110 w (toR s)=isF s w:=fun w hw=>JD hq.w (ws4_sg w hw);by_cases h0:(toR s).w.kind≠110∨(toR s).w.text∉[wFam,Y1,YG,wTs]
 ·rw[if_pos h0,if_neg]
  ·exact UJ hq.w
  ·rintro h;have:∃w∈ws4,isF s w=true:=by
     rcases h with h | h | h | h
     ·exact⟨wFam,odc,h⟩
     ·exact⟨Y1,odc,h⟩
     ·exact⟨YG,odc,h⟩
     ·exact⟨wTs,odc,h⟩
   obtain⟨w,hw,hf⟩:=this;rw[←e w hw]at hf;obtain⟨_,b2,b3⟩:=XH hf;rcases h0 with h0 | h0
   ·exact h0 b2
   ·exact h0 (b3▸hw)
 rw[if_neg h0];have k110:(toR s).w.kind=110:=Classical.byContradiction fun q=>h0 (.inl q);have tin:(toR s).w.text∈ws4:=Classical.byContradiction fun q=>h0 (.inr q);have k1:s.nxt.kind=1:=(VR _).2.1.1 k110;have tx:(toR s).w.text=s.nxt.text:=VK om;rw[if_pos (by
   have:isF s s.nxt.text=true:=by unfold isF;simp[k1]
   rw[tx]at tin;simp only[ws4,List.mem_cons,List.not_mem_nil,or_false]at tin;rcases tin with q | q | q | q<;>rw[q]at this<;>simp[this])]
 rw[tx]at tin ⊢;generalize s.nxt.text=k at*;cases hx:YK t s with
 | error a=>
   have:=VM ht hq.p hx;rw[if_pos om];exact this
 | ok x=>
   obtain⟨x1,x2,x3,_⟩:=VL ht hq.p hx;rw[x1,if_neg (Nb _),ZY];unfold testM JV;by_cases h4:(toR x.2).w.kind≠103∨(toR x.2).w.text∉mayS k
   ·rw[if_pos h4,if_neg]
    ·exact UJ x2.w
    ·rintro⟨a1,a2⟩;rcases h4 with h4 | h4
     ·exact h4 (LF.2 om)
     ·exact h4 (by rw[VK om];exact a2)
   rw[if_neg h4];have k4:x.2.nxt.kind=4:=by
     have:(toR x.2).w.kind=103:=Classical.byContradiction fun q=>h4 (.inl q);have:=LF.1 this;have:=x2.k;omega
   have tm:x.2.nxt.text∈mayS k:=by
     have:(toR x.2).w.text∈mayS k:=Classical.byContradiction fun q=>h4 (.inr q)
     rwa [VK om]at this
   rw[if_pos ⟨k4,tm⟩,VK (s:=x.2) om];cases hy:YK t x.2 with
   | error a=>
     have:=VM ht x2.p hy;rw[if_pos om];exact this
   | ok y=>
     obtain⟨y1,y2,y3,y4⟩:=VL ht x2.p hy;rw[y1,if_neg (Nb _),WU,ZY];simp only;have hkd:((toR y.2).w.kind=agK k)↔y.2.nxt.kind=kdOf k:=by
       unfold agK kdOf;rw[toR_kind];split
       ·exact(VR _).2.1
       ·split
        ·exact(VR _).2.2.1
        ·exact(VR _).2.2.2
     by_cases h6:y.2.nxt.kind≠kdOf k∨(k=wFam∧famF fs y.2.nxt.text<0)
     ·have h6' : (toR y.2).w.kind ≠ agK k ∨ (k = wFam ∧ famF fs (toR y.2).w.text < 0) := by
        rcases h6 with h6 | ⟨h6,h7⟩
        ·exact .inl fun q=>h6 (hkd.1 q)
        ·by_cases hz:y.2.nxt.kind=kdOf k
         ·right;exact⟨h6,by rw[VK (by rw[hz,h6];decide)];exact h7⟩
         ·exact .inl fun q=>hz (hkd.1 q)
      rw[if_pos h6,if_pos h6'];exact UJ y2.w
     ·have hz:y.2.nxt.kind=kdOf k:=Classical.byContradiction fun q=>h6 (.inl q);have h6':¬((toR y.2).w.kind≠agK k∨(k=wFam∧famF fs (toR y.2).w.text<0)):=by
        rintro(q | ⟨q1,q2⟩)
        ·exact q (hkd.2 hz)
        ·exact h6 (.inr ⟨q1,by rw[VK (by rw[hz,q1];decide)]at q2;exact q2⟩)
      rw[if_neg h6,if_neg h6'];cases hw:YK t y.2 with
      | error a=>exact VM ht y2.p hw
      | ok z=>
        obtain⟨z1,z2,z3,_⟩:=VL ht y2.p hw;refine⟨z1,?_,z2,by simp only;omega⟩;rw[←y4];simp only[ws4,List.mem_cons,List.not_mem_nil,or_false]at tin;rcases tin with rfl | rfl | rfl | rfl
        ·show CR.tst fs (.nd wFam [] _ (toR y.2).w.text _)=_;rw[VK (by rw[hz];decide),y4];rfl
        ·show CR.tst fs (.nd Y1 [] _ (if y.2.nxt.kind=3 then y.2.nxt.str else y.2.nxt.text) _)=_;rw[if_pos (show y.2.nxt.kind=3 from hz),y4];rfl
        ·show CR.tst fs (.nd YG [] _ (if y.2.nxt.kind=3 then y.2.nxt.str else y.2.nxt.text) _)=_;rw[if_pos (show y.2.nxt.kind=3 from hz),y4];rfl
        ·rw[y4];rfl
end
section
variable {fs:List Fml}{t:List UInt8}
def relC(fs:List Fml)(t:List UInt8)(d:Nat)(x:Except Nat (Tst×Qst))(r:CR×Ro):Prop:=
 match x with | .ok y=>r.2=toR y.2∧r.1.tst fs=y.1∧QsOK t y.2∧y.2.deep=d | .error p=>r.2.bad=p
def relL(fs:List Fml)(t:List UInt8)(op:Tst→Tst→Tst)(d:Nat)(x:Except Nat (Tst×Qst))(r:List CR×Ro):Prop:=
 match x with | .ok y=>r.2=toR y.2∧Xl op (Rs fs r.1)=y.1∧QsOK t y.2∧y.2.deep=d | .error p=>r.2.bad=p
theorem tsts_snoc(op:Tst→Tst→Tst)(l:List CR)(c:CR):Xl op (Rs fs (l++[c]))=if l=[]then c.tst fs else op (Xl op (Rs fs l)) (c.tst fs):=by
 rw[Rz,Rz,qj,List.map_cons,List.map_nil,foldT_snoc];cases l<;>simp
theorem VC{k:Nat}{w:List UInt8}{s:Ro}(h:0≤s.bad):isB k w s=false:=by
 unfold isB;rw[decide_eq_false om];rfl
theorem KX{s:Ro}{a:Int}(h:0≤s.bad):YL s a=s:=by unfold YL;rw[if_neg om]
theorem KG(f:Nat)(l:List CR){s:Ro}(h:0≤s.bad):orsR fs t f l s=(l,s):=by
 cases f with
 | zero=>unfold orsR;rw[KX h]
 | succ f=>rw[orsR,if_neg om]
theorem Ms(f:Nat)(l:List CR){s:Ro}(h:0≤s.bad):YN fs t f l s=(l,s):=by
 cases f with
 | zero=>unfold YN;rw[KX h]
 | succ f=>rw[YN,if_neg om]
theorem testR_bad{s:Ro}(h:0≤s.bad):WH fs t s=(.nd s.w.text [] [] [] 0,s):=by
 unfold WH;rw[if_pos h]
theorem factR_bad(f:Nat){s:Ro}(h:0≤s.bad):(ZV fs t f s).2=s:=by
 cases f with
 | zero=>unfold ZV;exact KX h
 | succ f=>rw[ZV,VC h,VC h,testR_bad h];simp
theorem condR_bad(f:Nat){s:Ro}(h:0≤s.bad):(Yh fs t f s).2=s:=by
 cases f with
 | zero=>unfold Yh;exact KX h
 | succ f=>unfold Yh;rw[KG _ [] h]
theorem PD(q:Qst):(YL (toR q) (toR q).w.pos).bad=q.nxt.pos:=by
 unfold YL;rw[if_pos (by simp[toR])];rfl
theorem isF_neg{q:Qst}{w:List UInt8}(h:¬isF q w=true):isF q w=false:=by cases e:isF q w;rfl;exact absurd e h
theorem open_rel(ht : t.length ≤ 512){q : Qst}(hq : QsOK t q): match Q4 t q with
   | .ok q'=>¬16<(Zl t (toR q)).o+1∧({Zl t (toR q)with o:=(Zl t (toR q)).o+1}:Ro)=toR q'∧QsOK t q'∧q'.deep=q.deep+1
   | .error p=>if 16<(Zl t (toR q)).o+1 then(q.nxt.pos:Int)=p else(Zl t (toR q)).bad=p:=by
 have ho:(Zl t (toR q)).o=q.deep:=Y5 t _;rw[ho];unfold Q4;by_cases hd:16<q.deep+1
 ·rw[if_pos hd];simp only;rw[if_pos hd];trivial
 ·rw[if_neg hd];cases hx:YK t {q with deep:=q.deep+1}with
  | error a=>
    have:=VM (s:={q with deep:=q.deep+1}) ht hq.p hx;rw[er_map];simp only;rw[if_neg hd];have e:(Zl t (toR {q with deep:=q.deep+1})).bad=(Zl t (toR q)).bad:=by
      unfold Zl YL toR;simp only;split<;>rfl
    rw[←e];exact this
  | ok x=>
    obtain⟨x1,x2,x3,_⟩:=VL (s:={q with deep:=q.deep+1}) ht hq.p hx;rw[WU];refine⟨hd,?_,x2,x3⟩;rw[←x1];unfold Zl YL toR;by_cases hw:(XA t q.far).2.2=true<;>simp[hw]
theorem condF_rel(ht : t.length ≤ 512): ∀ f, (∀ q, QsOK t q → relC fs t q.deep (XP fs t f q) (ZV fs t f (toR q))) ∧
   (∀l q,QsOK t q→relL fs t .and q.deep ((XP fs t f q).bind fun x=>QM fs t f (if l=[]then x.1 else .and (Xl .and (Rs fs l)) x.1) x.2) (YN fs t (f+1) l (toR q)))∧
   (∀q,QsOK t q→relC fs t q.deep (X9 fs t f q) (Ym fs t f (toR q)))∧
   (∀l q,QsOK t q→relL fs t .or q.deep ((X9 fs t f q).bind fun x=>orsF fs t f (if l=[]then x.1 else .or (Xl .or (Rs fs l)) x.1) x.2) (orsR fs t (f+1) l (toR q)))∧
   (∀q,QsOK t q→relC fs t q.deep (UZ fs t f q) (Yh fs t f (toR q))):=by
 have ands : ∀ f, (∀ q, QsOK t q → relC fs t q.deep (XP fs t f q) (ZV fs t f (toR q))) → (∀ g, f = g + 1 → ∀ l q, QsOK t q → relL fs t .and q.deep ((XP fs t g q).bind fun x => QM fs t g (if l = [] then x.1 else .and (Xl .and (Rs fs l)) x.1) x.2) (YN fs t (g + 1) l (toR q))) →
     ∀l q,QsOK t q→relL fs t .and q.deep ((XP fs t f q).bind fun x=>QM fs t f (if l=[]then x.1 else .and (Xl .and (Rs fs l)) x.1) x.2) (YN fs t (f+1) l (toR q)):=fun f hF hA l q hq=>by
   rw[YN,if_pos (by simp[toR])];have h1:=hF q hq;cases hx:XP fs t f q with
   | error p=>
     rw[hx]at h1;have hb:(ZV fs t f (toR q)).2.bad=p:=h1;rw[VC om,if_neg osi,VD];exact hb
   | ok x=>
     rw[hx]at h1;obtain⟨e1,e2,e3,e4⟩:=h1;rw[ZY,e1];have ea:(if l=[]then x.1 else .and (Xl .and (Rs fs l)) x.1)=Xl .and (Rs fs (l++[(ZV fs t f (toR q)).1])):=by rw[tsts_snoc,e2]
     rw[ea];have hl:l++[(ZV fs t f (toR q)).1]≠[]:=osi;generalize l++[(ZV fs t f (toR q)).1]=l2 at*;cases f with
     | zero=>unfold XP at hx;cases hx
     | succ g=>
       rw[QM,JD e3.w odc];by_cases hi:isF x.2 wAnd=true
       ·rw[if_pos hi,if_pos hi,show isS t 110 wAnd (toR x.2)=Zl t (toR x.2) by unfold isS;rw[JD e3.w odc,if_pos hi]];cases hy:YK t x.2 with
        | error p=>
          have:=VM ht e3.p hy;rw[VD,Ms _ _ om];exact this
        | ok y=>
          obtain⟨y1,y2,y3,_⟩:=VL ht e3.p hy;rw[ZY,y1];have:=hA g rfl l2 y.2 y2;rw[y3,e4]at this;simp only[if_neg hl]at this;exact this
       ·rw[if_neg hi,if_neg hi];exact⟨rfl,rfl,e3,e4⟩
 have ors : ∀ f, (∀ q, QsOK t q → relC fs t q.deep (X9 fs t f q) (Ym fs t f (toR q))) → (∀ g, f = g + 1 → ∀ l q, QsOK t q → relL fs t .or q.deep ((X9 fs t g q).bind fun x => orsF fs t g (if l = [] then x.1 else .or (Xl .or (Rs fs l)) x.1) x.2) (orsR fs t (g + 1) l (toR q))) →
     ∀l q,QsOK t q→relL fs t .or q.deep ((X9 fs t f q).bind fun x=>orsF fs t f (if l=[]then x.1 else .or (Xl .or (Rs fs l)) x.1) x.2) (orsR fs t (f+1) l (toR q)):=fun f hT hO l q hq=>by
   rw[orsR,if_pos (by simp[toR])];have h1:=hT q hq;cases hx:X9 fs t f q with
   | error p=>
     rw[hx]at h1;have hb:(Ym fs t f (toR q)).2.bad=p:=h1;rw[VC om,if_neg osi,VD];exact hb
   | ok x=>
     rw[hx]at h1;obtain⟨e1,e2,e3,e4⟩:=h1;rw[ZY,e1];have ea:(if l=[]then x.1 else .or (Xl .or (Rs fs l)) x.1)=Xl .or (Rs fs (l++[(Ym fs t f (toR q)).1])):=by rw[tsts_snoc,e2]
     rw[ea];have hl:l++[(Ym fs t f (toR q)).1]≠[]:=osi;generalize l++[(Ym fs t f (toR q)).1]=l2 at*;cases f with
     | zero=>unfold X9 at hx;cases hx
     | succ g=>
       rw[orsF,JD e3.w odc];by_cases hi:isF x.2 wOr=true
       ·rw[if_pos hi,if_pos hi,show isS t 110 wOr (toR x.2)=Zl t (toR x.2) by unfold isS;rw[JD e3.w odc,if_pos hi]];cases hy:YK t x.2 with
        | error p=>
          have:=VM ht e3.p hy;rw[VD,KG _ _ om];exact this
        | ok y=>
          obtain⟨y1,y2,y3,_⟩:=VL ht e3.p hy;rw[ZY,y1];have:=hO g rfl l2 y.2 y2;rw[y3,e4]at this;simp only[if_neg hl]at this;exact this
       ·rw[if_neg hi,if_neg hi];exact⟨rfl,rfl,e3,e4⟩
 intro f
 induction f with
 | zero=>
   have F0:∀q,QsOK t q→relC fs t q.deep (XP fs t 0 q) (ZV fs t 0 (toR q)):=fun q hq=>by unfold XP ZV;exact PD q
   have T0:∀q,QsOK t q→relC fs t q.deep (X9 fs t 0 q) (Ym fs t 0 (toR q)):=fun q hq=>by unfold X9 Ym;exact PD q
   exact⟨F0,ands 0 F0 (fun g h=>by cases h),T0,ors 0 T0 (fun g h=>by cases h),fun q hq=>by unfold UZ Yh;exact PD q⟩
 | succ g ih=>
   obtain⟨iF,iA,iT,iO,iC⟩:=ih;have hF:∀q,QsOK t q→relC fs t q.deep (XP fs t (g+1) q) (ZV fs t (g+1) (toR q)):=fun q hq=>by
     rw[XP,ZV,JD hq.w odc,Nh hq.w hq.k odc];have ho:=open_rel ht hq;by_cases h1:isF q wNot=true
     ·rw[if_pos h1,if_pos h1];cases hx:Q4 t q with
      | error p=>
        rw[hx]at ho;rw[VD];simp only at ho;by_cases hd:16<(Zl t (toR q)).o+1
        ·rw[if_pos hd]at ho ⊢;exact ho
        ·rw[if_neg hd]at ho ⊢;show(ZV fs t g {Zl t (toR q)with o:=(Zl t (toR q)).o+1}).2.bad=p;rw[factR_bad g (s:={Zl t (toR q)with o:=(Zl t (toR q)).o+1}) (by simp only;omega)];exact ho
      | ok x=>
        rw[hx]at ho;obtain⟨o1,o2,o3,o4⟩:=ho;rw[if_neg o1,ZY,o2];have h2:=iF x o3;cases hy:XP fs t g x with
        | error p=>rw[hy]at h2;exact h2
        | ok y=>
          rw[hy]at h2;obtain⟨e1,e2,e3,e4⟩:=h2;rw[WU,e1];refine⟨rfl,?_,⟨e3.w,e3.p,e3.k⟩,by simp only;omega⟩;show Tst.not (Xl .or (Rs fs [(ZV fs t g (toR x)).1]))=_;rw[←e2];rfl
     ·rw[if_neg h1,if_neg h1];by_cases h2:isF q [40]=true
      ·rw[if_pos h2,if_pos h2];cases hx:Q4 t q with
       | error p=>
         rw[hx]at ho;rw[VD];simp only at ho;by_cases hd:16<(Zl t (toR q)).o+1
         ·rw[if_pos hd]at ho ⊢;exact ho
         ·rw[if_neg hd]at ho ⊢;have hb:(Yh fs t g {Zl t (toR q)with o:=(Zl t (toR q)).o+1}).2={Zl t (toR q)with o:=(Zl t (toR q)).o+1}:=condR_bad g (by simp only;omega);simp only[hb];have hn:isB 103 [41] {Zl t (toR q)with o:=(Zl t (toR q)).o+1}=false:=VC (by simp only;omega);unfold isS;rw[hn];simp only[Bool.false_eq_true,if_false];rw[if_neg om];exact ho
       | ok x=>
         rw[hx]at ho;obtain⟨o1,o2,o3,o4⟩:=ho;rw[if_neg o1,ZY,o2];have h3:=iC x o3;cases hy:UZ fs t g x with
         | error p=>
           rw[hy]at h3;have hb:(Yh fs t g (toR x)).2.bad=p:=h3;rw[VD];have hn:isB 103 [41] (Yh fs t g (toR x)).2=false:=VC om;unfold isS;simp only[hn,Bool.false_eq_true,if_false];rw[if_neg om];exact hb
         | ok y=>
           rw[hy]at h3;obtain⟨e1,e2,e3,e4⟩:=h3;rw[ZY];simp only[e1,Nh e3.w e3.k (show Wp 41=false by decide)];have hdy:1≤y.2.deep:=om;by_cases h5:isF y.2 [41]=true
           ·rw[h5];simp only[Bool.true_eq_false,and_false,if_false,if_true];rw[show isS t 103 [41] (toR y.2)=Zl t (toR y.2) by unfold isS;rw[Nh e3.w e3.k (show Wp 41=false by decide),if_pos h5]];have eo:∀d,(Zl t (toR {y.2 with deep:=d}))={Zl t (toR y.2)with o:=d}:=fun d=>by
              unfold Zl YL toR;by_cases hw:(XA t y.2.far).2.2=true<;>simp[hw]
            cases hz:YK t {y.2 with deep:=y.2.deep-1}with
            | error p=>
              have:=VM (s:={y.2 with deep:=y.2.deep-1}) ht e3.p hz;rw[eo]at this;exact this
            | ok z=>
              obtain⟨z1,z2,z3,_⟩:=VL (s:={y.2 with deep:=y.2.deep-1}) ht e3.p hz;rw[eo]at z1;rw[WU];refine⟨?_,?_,z2,by simp only at z3 ⊢;omega⟩
              ·rw[←z1];simp only;rw[Y5];rfl
              ·show Xl .or (Rs fs [(Yh fs t g (toR x)).1])=_;rw[←e2];rfl
           ·rw[isF_neg h5];simp only[Bool.false_eq_true,if_false,and_true];rw[show isS t 103 [41] (toR y.2)=toR y.2 by unfold isS;rw[Nh e3.w e3.k (show Wp 41=false by decide),if_neg h5],if_pos (show(toR y.2).bad<0 by simp[toR])];exact UJ e3.w
      ·rw[if_neg h2,if_neg h2];have:=testF_rel (fs:=fs) ht hq;cases hx:JU fs t q with
       | error p=>rw[hx]at this;exact this
       | ok x=>rw[hx]at this;exact this
   have hA:=ands (g+1) hF (fun g2 h=>by cases h;exact iA);have hT:∀q,QsOK t q→relC fs t q.deep (X9 fs t (g+1) q) (Ym fs t (g+1) (toR q)):=fun q hq=>by
     have h:=iA [] q hq;rw[X9];unfold Ym;simp only[if_true]at h;cases hx:(XP fs t g q).bind fun x=>QM fs t g x.1 x.2 with
     | error p=>rw[hx]at h;exact h
     | ok x=>rw[hx]at h;exact⟨h.1,h.2.1,h.2.2.1,h.2.2.2⟩
   have hO:=ors (g+1) hT (fun g2 h=>by cases h;exact iO);refine⟨hF,hA,hT,hO,fun q hq=> ?_⟩;have h:=iO [] q hq;rw[UZ];unfold Yh;simp only[if_true]at h;cases hx:(X9 fs t g q).bind fun x=>orsF fs t g x.1 x.2 with
   | error p=>rw[hx]at h;exact h
   | ok x=>rw[hx]at h;exact⟨h.1,h.2.1,h.2.2.1,h.2.2.2⟩
end
end Go.Rt
set_option maxRecDepth 10000
namespace Go.Proofs.YtkmkbndcekklmaaGreatDoor
open Go Go.Sx Go.Rt Go.Proofs Tryz
theorem Xd(a:Tst):(Yn a).sz=1:=by cases a<;>rfl
theorem Xe(a:Tst):(Yn a).memOK=true:=by cases a<;>rfl
theorem Xf(a:Tst):(Yn a).isAgg=false:=by cases a<;>rfl
theorem YH(g:Bool)(a:Tst):strip g (Yn a)=Yn a:=by cases a<;>cases g<;>rfl
section
variable (fs:List Fml)(t:List UInt8)(kr ko:Nat)
def CondK(f:Nat):Prop:=∀(s:Qst) (ver:Nat) (H:Heap) (n:Nat),QI t s→4*s.m t+3≤f→QdH fs t kr ko s ver H n→
 Zn prog 79 [.loc kr 0 0 0 []] H n (QdK fs t kr ko H n ((UZ fs t f s).map fun x=>(Yn x.1,x.2)))
def TermK(f:Nat):Prop:=∀(s:Qst) (ver:Nat) (H:Heap) (n:Nat),QI t s→4*s.m t+2≤f→QdH fs t kr ko s ver H n→
 Zn prog 119 [.loc kr 0 0 0 []] H n (QdK fs t kr ko H n ((X9 fs t f s).map fun x=>(Yn x.1,x.2)))
def FactK(f:Nat):Prop:=∀(s:Qst) (ver:Nat) (H:Heap) (n:Nat),QI t s→4*s.m t+1≤f→QdH fs t kr ko s ver H n→
 Zn prog 142 [.loc kr 0 0 0 []] H n (QdK fs t kr ko H n ((XP fs t f s).map fun x=>(Yn x.1,x.2)))
end
theorem NQe0.eqs{P Q:Prop}(g:Imp P Q:=by(try simp only[go_sem,seval,hR1,hszs,hszb,wdAV,g1,g2,hx,Xd,Xe,Xf,YH]);exact Imp.rf):Imp P Q:=g
theorem NQe0.inz{P Q:Prop}(g:Imp P Q:=by refine Imp.up eqs ?_;(repeat refine Imp.pl ?_);exact Imp.rf):Imp P Q:=g
set_option maxHeartbeats 1600000 in
open NQe0 in
theorem c_query_fact{fs:List Fml}(hfs:fs.length≤1048576){t:List UInt8}(ht:t.length≤512){kr ko:Nat}{f:Nat}(hF:FactK fs t kr ko f)(hC:CondK fs t kr ko f):FactK fs t kr ko (f+1):=fun s ver H n hI hm h=>by
 have hR:=h.r;have hR1:=hR;unfold qdO at hR1;have hk:=h.lr;have hko:=h.lo;have hne:=h.ne;have hszs:(Zh fs).sz=1:=rfl;have hszb:∀b,(bys b).sz=1:=fun _=>rfl;have g1:(kr=n)=False:=by simp;omega
 have g2:(n=kr)=False:=by simp;omega
 have hx:=hszs;obtain⟨r,hr⟩:∃r,r=((XP fs t (f+1) s).map fun x=>(Yn x.1,x.2)):=⟨_,rfl⟩;rw[←hr];simp only[XP]at hr;refine QdK.fin hk hko hne ?_;refine fw func142 ntmps142 results142 ?_;refine rg zs [0] ?_;refine bk fun K1 hK1=> ?_;refine rk zs [0,5] fun K V=> ?_;refine ck func120 ((Xr fs t s kr ko ver wNot _ _ hR)) ?_;apply V;clear V K;refine Zb ?_ ?_<;>intro hb
 ·simp only[if_pos hb]at hr;refine rk zs [0] fun K V=> ?_;refine cK func153 (Li fs t s kr ko ver ht hI.far (hI.outs ht) (by have:=hI.deep;omega) _ _ h) ?_ ?_
  ·rintro q9 H' n' hc;exact hc.up (fun p9 he=>by rw[Yv he]at hr;exact hr) (Nat.le_refl _) (fun k _ _ _=>rfl)
  rintro rr H1 n9 hc;obtain⟨x1,v1,he,h1,rfl,hl1⟩:=hc.got hk hko hne;obtain⟨_,hx1,hy⟩:=map_ok he;cases hy;obtain⟨hI1,hm1,hd1⟩:=KI ht hI (YV hb) hx1;simp only[hx1,ZY]at hr;refine nz ?_;apply V;clear V K;refine rk zs [0,3] fun K V=> ?_;refine cK func142 (hF x1 v1 _ _ hI1 (by omega) h1) ?_ ?_
  ·rintro q9 H' n' hc;exact hc.up (fun p9 he=>by rw[Yv he]at hr;exact hr) (Nat.le_refl _) (fun k _ e2 e3=>hl1 k e2 e3)
  rintro rr H2 n9 hc;obtain⟨_,v2,he,h2,rfl,hl2⟩:=hc.got hk hko hne;obtain⟨x2,hx2,hy⟩:=map_ok he;cases hy;have hg2:=(Vq ht f).2.2.2.2 x1 x2.1 x2.2 hI1 hx2;simp only[hx2,WU]at hr;have hR1:=h2.r;unfold qdO at hR1;have hx:IntKind.i64.wrap ((x2.2.deep:Int)-1)=((x2.2.deep-1:Nat):Int):=by have e1:=hg2.2.2;have e2:=hI.deep;rw[w64 (by omega) (by omega)];omega
  refine nz ?_;apply V;clear V K;refine rg zs [3] ?_;refine rg zs [2] ?_;refine ar ?_;exact QdE.ok (s:={x2.2 with deep:=x2.2.deep-1}) hr ⟨hk,hko,hne,Rm _ _ _,by rw[Rk _ _ hne.symm,Rk _ _ (by omega)];exact h2.o⟩ hko (fun k e1 e2 e3=>by rw[Rk _ _ e2,Rk _ _ (by omega),hl2 k e2 e3];exact hl1 k e2 e3) (.fn .nil (.cons (Vj ((Rk _ _ (by omega)).trans (Rm _ _ _)) (by omega) (.kl (Xu _ _))) .nil))
 rw[if_neg (by rw[hb];simp)]at hr;refine rk zs [0,20] fun K V=> ?_;refine ck func120 ((Xr fs t s kr ko ver [40] _ _ hR)) ?_;apply V;clear V K;refine Zb ?_ ?_<;>intro hb
 ·simp only[if_pos hb]at hr;refine rk zs [0] fun K V=> ?_;refine cK func153 (Li fs t s kr ko ver ht hI.far (hI.outs ht) (by have:=hI.deep;omega) _ _ h) ?_ ?_
  ·rintro q9 H' n' hc;exact hc.up (fun p9 he=>by rw[Yv he]at hr;exact hr) (Nat.le_refl _) (fun k _ _ _=>rfl)
  rintro rr H1 n9 hc;obtain⟨x1,v1,he,h1,rfl,hl1⟩:=hc.got hk hko hne;obtain⟨_,hx1,hy⟩:=map_ok he;cases hy;obtain⟨hI1,hm1,hd1⟩:=KI ht hI (YV hb) hx1;simp only[hx1,ZY]at hr;refine nz ?_;apply V;clear V K;refine rk zs [0,4] fun K V=> ?_;refine cK func79 (hC x1 v1 _ _ hI1 (by omega) h1) ?_ ?_
  ·rintro q9 H' n' hc;exact hc.up (fun p9 he=>by rw[Yv he]at hr;exact hr) (Nat.le_refl _) (fun k _ e2 e3=>hl1 k e2 e3)
  rintro rr H2 n9 hc;obtain⟨_,v2,he,h2,rfl,hl2⟩:=hc.got hk hko hne;obtain⟨x2,hx2,hy⟩:=map_ok he;cases hy;have hg2:=(Vq ht f).1 x1 x2.1 x2.2 hI1 hx2;simp only[hx2,ZY]at hr;have hR1:=h2.r;unfold qdO at hR1;have hx:IntKind.i64.wrap ((x2.2.deep:Int)-1)=((x2.2.deep-1:Nat):Int):=by have e1:=hg2.2.2;have e2:=hI.deep;rw[w64 (by omega) (by omega)];omega
  refine nz ?_;apply V;clear V K;refine rg zs [0,4] ?_;refine Za fun K2 hK2=> ?_;refine rk zs [0,4,36] fun K V=> ?_;refine ck func120 ((Xr fs t {x2.2 with deep:=x2.2.deep-1} kr ko v2 [41] _ _ (Rm _ _ _))) ?_;apply V;clear V K;refine Zb ?_ ?_<;>intro hb
  ·have hb1:isF {x2.2 with deep:=x2.2.deep-1} [41]=false:=by simpa using hb
   rw[if_neg (by show¬isF {x2.2 with deep:=x2.2.deep-1} [41]=true;rw[hb1];simp),er_map]at hr;refine rk1 zs [0,4] fun K V=> ?_;refine Zw (args':=[.int .i64 x2.2.nxt.pos]) func80 rfl rfl rfl (Ye x2.2.nxt.pos _ _) ?_ ?_
   ·rintro rr H' n' ⟨rfl,rfl,hz⟩;cases hz
   rintro q9 H' n' ⟨rfl,rfl,hz⟩;cases hz;exact QdE.err hr (Nat.le_refl _) (fun k e1 e2 e3=>by rw[Rk _ _ e2,hl2 k e2 e3];exact hl1 k e2 e3)
  have hb1:isF {x2.2 with deep:=x2.2.deep-1} [41]=true:=by simpa using hb
  rw[if_pos (show isF x2.2 [41]=true from hb1)]at hr;refine ak ?_;apply hK2;refine rk zs [4] fun K V=> ?_;refine Zw (args':=[.loc kr 0 0 0 []]) func121 rfl rfl rfl (YF fs t {x2.2 with deep:=x2.2.deep-1} kr ko v2 ht hg2.1.far (hg2.1.outs ht) _ _ ?_) ?_ ?_
  ·exact⟨hk,hko,hne,Rm _ _ _,by rw[Rk _ _ hne.symm];exact h2.o⟩
  rotate_left
  ·rintro q9 H' n' hc;exact hc.up (fun p9 he=>by rw[Yv he]at hr;exact hr) (Nat.le_refl _) (fun k e1 e2 e3=>by rw[Rk _ _ e2,hl2 k e2 e3];exact hl1 k e2 e3)
  rintro rr H3 n9 hc;obtain⟨_,v3,he,h3,rfl,hl3⟩:=hc.got hk hko hne;obtain⟨x3,hx3,hy⟩:=map_ok he;cases hy;simp only[hx3,WU]at hr;refine nz ?_;apply V;clear V K;refine rg zs [2] ?_;refine ar ?_;exact QdE.ok hr h3 hko (fun k e1 e2 e3=>by rw[hl3 k e2 e3,Rk _ _ e2,hl2 k e2 e3];exact hl1 k e2 e3) (.kl (Xu _ _))
 rw[if_neg (by rw[hb];simp)]at hr;refine ak ?_;apply hK1;refine rk zs [2] fun K V=> ?_;refine cK func155 (c_query_test fs hfs t s kr ko ver ht hI _ _ h) ?_ ?_
 ·rintro q9 H' n' hc;exact hc.up (fun p9 he=>by rw[he]at hr;exact hr) (Nat.le_refl _) (fun k _ _ _=>rfl)
 rintro rr H1 n9 hc;obtain⟨s4,v1,he,h1,rfl,hl1⟩:=hc.got hk hko hne;rw[he]at hr;obtain⟨x4,hx4,hy⟩:=map_ok he;cases hy;refine nz ?_;apply V;clear V K;refine ar ?_;exact QdE.ok hr h1 hko (fun k e1 e2 e3=>hl1 k e2 e3) (.kl (Xu _ _))
theorem NQf0.eqs{P Q:Prop}(g:Imp P Q:=by(try simp only[go_sem,seval,hszs,hszb,Xd,Xe,Xf,YH,hav1,hav2,hav3,hav4]);exact Imp.rf):Imp P Q:=g
set_option maxHeartbeats 1600000 in
open NQf0 NY in
theorem c_query_term{fs:List Fml}{t:List UInt8}(ht:t.length≤512){kr ko:Nat}:∀{f:Nat},(∀g,g<f→FactK fs t kr ko g)→TermK fs t kr ko f:=fun{f} hF s ver H n hI hm h=>by
 obtain⟨f,rfl⟩:∃q,f=q+1:=⟨f-1,om⟩;have hR:=h.r;have hR1:=hR;unfold qdO at hR1;have hk:=h.lr;have hko:=h.lo;have hne:=h.ne;have hszs:(Zh fs).sz=1:=rfl;have hszb:∀b,(bys b).sz=1:=fun _=>rfl;have hav1:=hszs;have hav2:=hszs;have hav3:=hszs;have hav4:=hszs;obtain⟨r,hr⟩:∃r,r=((X9 fs t (f+1) s).map fun x=>(Yn x.1,x.2)):=⟨_,rfl⟩;rw[←hr];simp only[X9]at hr;refine QdK.fin hk hko hne ?_;refine fw func119 ntmps119 results119 ?_;refine kcu ?_;refine rk zs [0,3] fun K V=> ?_;refine cK func142 (hF f om s ver _ _ hI om h) ?_ ?_
 ·exact kaU
 rintro rr H1 n9 hc;obtain⟨_,v1,he,h1,rfl,hl1⟩:=hc.got hk hko hne;obtain⟨x1,hx1,hy⟩:=map_ok he;cases hy;have hg1:=(Vq ht f).2.2.2.2 s x1.1 x1.2 hI hx1;have hm1:=hg1.2.1;simp only[hx1,ZY]at hr;refine nz ?_;refine kas ?_;refine bk fun K1 hK1=> ?_;refine Zk (fun T' H' n'=>∃(g:Nat) (b:Tst) (s1:Qst) (v1:Nat) (av:AV) (j:Nat),r=(QM fs t g b s1).map (fun x=>(Yn x.1,x.2))∧4*s1.m t+1≤g∧g≤f∧QI t s1∧T'=tl [(0,.loc kr 0 0 0 []),(3,av)]∧QdH fs t kr ko s1 v1 H' n'∧(∀H2:Heap,(∀k,n≤k→k<n'→H2 k=H' k)→Frz H2 n av (Yn b))∧(av.sz=1∧av.memOK=true∧av.isAgg=false∧∀g,strip g av=av)∧(∀k,k<n→k≠kr→k≠ko→H' k=H k)∧n'=n+2*j∧j+s1.m t≤s.m t) (fun _ _ n'=>2*s.m t+n+2-n') ?_ ?_
 ·exact kbk
 rintro T1 H1 n1 ⟨g,b,s1,v1,av,j,hr,hmg,hgf,hI1,rfl,hQ,hfz,⟨hav1,hav2,hav3,hav4⟩,hlow,rfl,hj⟩;obtain⟨g,rfl⟩:∃q,g=q+1:=⟨g-1,om⟩;simp only[QM]at hr;have g1:(n+2*j=n+2*j+1)=False:=osi;have g2:(n+2*j+1=n+2*j)=False:=osi;refine Za fun K2 hK2=> ?_;refine rc zs [0,3,9] func120 ((Xr fs t s1 kr ko v1 wAnd _ _ hQ.r)) ?_;refine Zb ?_ ?_<;>intro hb
 ·rw[if_pos hb]at hr;refine kaQ ?_;refine kbM ?_;refine rk zs [0,3] fun K V=> ?_;refine cK func121 (YF fs t s1 kr ko v1 ht hI1.far (hI1.outs ht) _ _ hQ) ?_ ?_
  ·exact kcN
  rintro rr H2 n9 hc;obtain⟨_,v2,he,h2,rfl,hl2⟩:=hc.got om om hne;obtain⟨x2,hx2,hy⟩:=map_ok he;cases hy;have ht2:=YQ ht hI1 (YV hb) (w:=x2.1) (s':=x2.2) hx2;have hI2:=ht2.1.1;have hm2:=ht2.2.1;simp only[hx2,ZY]at hr;refine nz ?_;refine kas ?_;refine Zg zs [0,4,5] fun K V=> ?_;refine ka6 ?_
  repeat refine peel ?_
  refine cK func142 (hF g om x2.2 v2 _ _ hI2 om h2) ?_ ?_
  ·exact kb5
  rintro rr H3 n9 hc;obtain⟨_,v3,he,h3,rfl,hl3⟩:=hc.got om om hne;obtain⟨x3,hx3,hy⟩:=map_ok he;cases hy;have hg3:=(Vq ht g).2.2.2.2 x2.2 x3.1 x3.2 hI2 hx3;have hm3:=hg3.2.1;simp only[hx3,ZY]at hr;refine ka6 ?_;refine kad ?_;refine rg1 zs [0,3] ?_;refine⟨⟨g,.and b x3.1,x3.2,v3,_,j+1,hr,om,om,hg3.1,rfl,?_,?_,⟨rfl,rfl,rfl,fun g=>by cases g<;>rfl⟩,?_,om,om⟩,om⟩
  ·exact h3.low (fun k hk9=>by simp only[Rl];(repeat rw[if_neg om])) om
  ·exact kav
  ·exact kcc
 rw[if_neg (by rw[hb];simp),WU]at hr;refine ax ?_;apply hK1;refine kal ?_;exact QdE.ok hr hQ hko hlow (hfz _ (fun _ _ _=>rfl))
set_option maxHeartbeats 1600000 in
open NQf0 NY in
theorem c_query_cond{fs:List Fml}{t:List UInt8}(ht:t.length≤512){kr ko:Nat}:∀{f:Nat},(∀g,g<f→TermK fs t kr ko g)→CondK fs t kr ko f:=fun{f} hF s ver H n hI hm h=>by
 obtain⟨f,rfl⟩:∃q,f=q+1:=⟨f-1,om⟩;have hR:=h.r;have hR1:=hR;unfold qdO at hR1;have hk:=h.lr;have hko:=h.lo;have hne:=h.ne;have hszs:(Zh fs).sz=1:=rfl;have hszb:∀b,(bys b).sz=1:=fun _=>rfl;have hav1:=hszs;have hav2:=hszs;have hav3:=hszs;have hav4:=hszs;obtain⟨r,hr⟩:∃r,r=((UZ fs t (f+1) s).map fun x=>(Yn x.1,x.2)):=⟨_,rfl⟩;rw[←hr];simp only[UZ]at hr;refine QdK.fin hk hko hne ?_;refine fw func79 ntmps79 results79 ?_;refine kcu ?_;refine rk zs [0,3] fun K V=> ?_;refine cK func119 (hF f om s ver _ _ hI om h) ?_ ?_
 ·exact kaU
 rintro rr H1 n9 hc;obtain⟨_,v1,he,h1,rfl,hl1⟩:=hc.got hk hko hne;obtain⟨x1,hx1,hy⟩:=map_ok he;cases hy;have hg1:=(Vq ht f).2.2.1 s x1.1 x1.2 hI hx1;have hm1:=hg1.2.1;simp only[hx1,ZY]at hr;refine nz ?_;refine kas ?_;refine bk fun K1 hK1=> ?_;refine Zk (fun T' H' n'=>∃(g:Nat) (b:Tst) (s1:Qst) (v1:Nat) (av:AV) (j:Nat),r=(orsF fs t g b s1).map (fun x=>(Yn x.1,x.2))∧4*s1.m t+2≤g∧g≤f∧QI t s1∧T'=tl [(0,.loc kr 0 0 0 []),(3,av)]∧QdH fs t kr ko s1 v1 H' n'∧(∀H2:Heap,(∀k,n≤k→k<n'→H2 k=H' k)→Frz H2 n av (Yn b))∧(av.sz=1∧av.memOK=true∧av.isAgg=false∧∀g,strip g av=av)∧(∀k,k<n→k≠kr→k≠ko→H' k=H k)∧n'=n+2*j∧j+s1.m t≤s.m t) (fun _ _ n'=>2*s.m t+n+2-n') ?_ ?_
 ·exact kbk
 rintro T1 H1 n1 ⟨g,b,s1,v1,av,j,hr,hmg,hgf,hI1,rfl,hQ,hfz,⟨hav1,hav2,hav3,hav4⟩,hlow,rfl,hj⟩;obtain⟨g,rfl⟩:∃q,g=q+1:=⟨g-1,om⟩;simp only[orsF]at hr;have g1:(n+2*j=n+2*j+1)=False:=osi;have g2:(n+2*j+1=n+2*j)=False:=osi;refine Za fun K2 hK2=> ?_;refine rc zs [0,3,9] func120 ((Xr fs t s1 kr ko v1 wOr _ _ hQ.r)) ?_;refine Zb ?_ ?_<;>intro hb
 ·rw[if_pos hb]at hr;refine kaQ ?_;refine kbM ?_;refine rk zs [0,3] fun K V=> ?_;refine cK func121 (YF fs t s1 kr ko v1 ht hI1.far (hI1.outs ht) _ _ hQ) ?_ ?_
  ·exact kcN
  rintro rr H2 n9 hc;obtain⟨_,v2,he,h2,rfl,hl2⟩:=hc.got om om hne;obtain⟨x2,hx2,hy⟩:=map_ok he;cases hy;have ht2:=YQ ht hI1 (YV hb) (w:=x2.1) (s':=x2.2) hx2;have hI2:=ht2.1.1;have hm2:=ht2.2.1;simp only[hx2,ZY]at hr;refine nz ?_;refine kas ?_;refine Zg zs [0,4,5] fun K V=> ?_;refine ka6 ?_
  repeat refine peel ?_
  refine cK func119 (hF g om x2.2 v2 _ _ hI2 om h2) ?_ ?_
  ·exact kb5
  rintro rr H3 n9 hc;obtain⟨_,v3,he,h3,rfl,hl3⟩:=hc.got om om hne;obtain⟨x3,hx3,hy⟩:=map_ok he;cases hy;have hg3:=(Vq ht g).2.2.1 x2.2 x3.1 x3.2 hI2 hx3;have hm3:=hg3.2.1;simp only[hx3,ZY]at hr;refine ka6 ?_;refine kad ?_;refine rg1 zs [0,3] ?_;refine⟨⟨g,.or b x3.1,x3.2,v3,_,j+1,hr,om,om,hg3.1,rfl,?_,?_,⟨rfl,rfl,rfl,fun g=>by cases g<;>rfl⟩,?_,om,om⟩,om⟩
  ·exact h3.low (fun k hk9=>by simp only[Rl];(repeat rw[if_neg om])) om
  ·exact kav
  ·exact kcc
 rw[if_neg (by rw[hb];simp),WU]at hr;refine ax ?_;apply hK1;refine kal ?_;exact QdE.ok hr hQ hko hlow (hfz _ (fun _ _ _=>rfl))
theorem MM{fs:List Fml}(hfs:fs.length≤1048576){t:List UInt8}(ht:t.length≤512){kr ko:Nat}:∀f,(∀g,g≤f→FactK fs t kr ko g)∧(∀g,g≤f→TermK fs t kr ko g)∧∀g,g≤f→CondK fs t kr ko g
 | 0=>by
   refine⟨fun g hg=> ?_,fun g hg=> ?_,fun g hg=> ?_⟩<;>(intro s ver H n hI hm h;omega)
 | f+1=>by
   obtain⟨h1,h2,h3⟩:=MM hfs ht f;refine⟨fun g hg=> ?_,fun g hg=> ?_,fun g hg=> ?_⟩
   ·rcases Nat.lt_or_ge g (f+1)with q | q
    ·exact h1 g om
    ·obtain rfl:g=f+1:=om;exact c_query_fact hfs ht (h1 f (Nat.le_refl _)) (h3 f (Nat.le_refl _))
   ·exact c_query_term ht fun q hq=>h1 q om
   ·exact c_query_cond ht fun q hq=>h2 q om
end Go.Proofs.YtkmkbndcekklmaaGreatDoor