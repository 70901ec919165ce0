/- Own layer: the walk through Run. Of the program; no condition. -/
import Derived.Test.YtkmkbndcekklmaaGreatDoorPJ
import Derived.Test.YtkmkbndcekklmaaGreatDoorPF
import Derived.Test.YtkmkbndcekklmaaGreatDoorPD
import Derived.Lib.LaidTab
import Derived.Test.YtkmkbndcekklmaaGreatDoorPE
import Derived.Test.YtkmkbndcekklmaaGreatDoorPH
set_option linter.unusedSimpArgs false
set_option linter.unusedVariables false
set_option maxRecDepth 10000
namespace Go.Proofs.YtkmkbndcekklmaaGreatDoor
open Go Go.Sx Go.Rt Go.Proofs Tryz
def YA(rows:List RowE):Prop:=rows.length≤1048576∧∀x∈rows,x.row.length≤1099511627776∧x.cells.length≤1048576∧∀c∈x.cells,c.qual.length≤1099511627776∧c.value.length≤1099511627776
theorem YE(l:Option (List UInt8))(g:Bool):strip g (Ki l)=Ki l:=by cases l<;>cases g<;>rfl
theorem parse_ok{fs:List Fml}{q:QryE}(h:qcE fs q=0)(h0:0<q.whr.length):∃x,Wu fs q.whr= .ok x:=by
 unfold qcE at h;by_cases h1:Zy fs≠0
 ·rw[if_pos h1]at h;exact absurd h h1
 rw[if_neg h1]at h;by_cases h2:Yy fs.length q=false
 ·rw[if_pos h2]at h;exact absurd h odc
 rw[if_neg h2]at h;by_cases h3:0<q.whr.length∧(Xc fs q.whr).2.1≠0
 ·rw[if_pos h3]at h;exact absurd h h3.2
 ·have h4:(Xc fs q.whr).2.1=0:=Classical.byContradiction fun e=>h3 ⟨h0,e⟩;unfold Xc at h4;rw[if_neg h1]at h4;cases hp:Wu fs q.whr with
  | ok x=>exact⟨x,rfl⟩
  | error a=>rw[hp]at h4;simp at h4
theorem Nu{fs:List Fml}{q:QryE}(h:¬0<q.whr.length):Z6 fs q=none:=by unfold Z6;rw[if_pos om]
theorem Nt{fs:List Fml}{q:QryE}(h:0<q.whr.length){x:Tst×List UInt8}(hx:Wu fs q.whr= .ok x):Z6 fs q=some x.1:=by unfold Z6;rw[if_neg om,hx]
def Nl:Option AObj→Nat
 | some (.arr _ _ [.agg [_,_,.int _ m,_,_]])=>m.toNat
 | _=>0
theorem Jn{rows:List RowE}{err:Int}{m kw vw lw kt vt lt:Nat}:Nl (some (.arr 0 5 [UT rows err m kw vw lw kt vt lt]))=m:=by simp[Nl,UT]
section
variable {rows:List RowE}{err:Int}{ks kw kt lo m:Nat}{kb:List (Nat×List UInt8)}{tk:List Nat}{H H':Heap}{n n':Nat}
theorem Lr.pan{p:AV}(h:Lr rows err ks kw kt lo m kb tk H n (.pan p) H' n'):False:=by
 obtain⟨_,_,h⟩:=h;split at h
 ·obtain⟨k1,k2,v2,js,vw,vt,kb2,tels,tk2,e,_⟩:=h;cases e
 ·obtain⟨vw,vt,tels,e,_⟩:=h;cases e
theorem Lr.told{r:AV}(h:Lr rows err ks kw kt lo m kb tk H n (.val r) H' n')(hl:m<rows.length):∃k1 k2 v2 js vw vt kb2 tels tk2,r= .tup [.agg [.osl k1 2 0 (rows.getD m default).row.length,.osl k2 v2 0 (rows.getD m default).cells.length],.bool true,.int .i64 0]∧Own H' (.agg [.osl k1 2 0 (rows.getD m default).row.length,.osl k2 v2 0 (rows.getD m default).cells.length]) (Zf (rows.getD m default)) js∧(∀k∈js,n≤k∧k<n')∧SrcS rows err ks kw kt lo (m+1) vw vt kb2 tels tk2 H' n'∧(∀k∈tk2,k∈tk∨n≤k)∧tels.length≤m+1∧kb2.length≤kb.length+1+2*(rows.getD m default).cells.length:=by
 obtain⟨_,_,h⟩:=h;rw[if_pos hl]at h;obtain⟨k1,k2,v2,js,vw,vt,kb2,tels,tk2,e,h⟩:=h;cases e;exact⟨k1,k2,v2,js,vw,vt,kb2,tels,tk2,rfl,h⟩
theorem Lr.past{r:AV}(h:Lr rows err ks kw kt lo m kb tk H n (.val r) H' n')(hl:rows.length≤m):∃vw vt tels,r= .tup [.agg [.nilsl,.nilsl],.bool false,.int .i64 err]∧SrcS rows err ks kw kt lo (m+1) vw vt kb tels tk H' n'∧tels.length≤m+1:=by
 obtain⟨_,_,h⟩:=h;rw[if_neg om]at h;obtain⟨vw,vt,tels,e,h⟩:=h;cases e;exact⟨vw,vt,tels,rfl,h⟩
end
theorem Own.agg2{H:Heap}{a b c d:AV}{ks:List Nat}(h:Own H (.agg [a,b]) (.agg [c,d]) ks):∃k1 k2,ks=k1++k2∧Own H a c k1∧Own H b d k2:=by
 cases h with
 | nk h=>exact h.elim
 | agg h=>
   cases h with
   | cons h1 h2=>
     cases h2 with
     | cons h3 h4=>cases h4 with | nil=>exact⟨_,_,osi,h1,h3⟩
theorem Own.osl_inv{H:Heap}{k v len e:Nat}{ys:List AV}{ks:List Nat}(h:Own H (.osl k v 0 len) (.sl e ys) ks):∃els js,ks=k::js∧H k=some (.arr v e els)∧len≤els.length∧OwnL H (els.take len) ys js:=by
 cases h with
 | osl h1 h2 h3=>exact⟨_,_,rfl,h1,h2,h3⟩
theorem own_cel_inv{H:Heap}{a:AV}{c:CelE}{ks:List Nat}(h:Own H a (Zj c) ks):∃b d,a= .agg [.int .i64 c.fam,b,.int .i64 c.ts,d]∧b.sz=1∧d.sz=1∧b.memOK=true∧d.memOK=true∧b.isAgg=false∧d.isAgg=false:=by
 generalize hb:Zj c=x at h;cases h with
 | nk h=>subst hb;exact h.elim
 | nilsl=>cases hb
 | osl=>cases hb
 | tup=>cases hb
 | agg h=>
   cases hb;cases h with
   | cons h1 h2=>cases h2 with | cons h3 h4=>cases h4 with | cons h5 h6=>cases h6 with | cons h7 h8=>cases h8 with | nil=>
     cases h1 with | nk _=>cases h5 with | nk _=>
     exact⟨_,_,rfl,h3.sl_sz.1,h7.sl_sz.1,h3.sl_sz.2.2,h7.sl_sz.2.2,h3.sl_sz.2.1,h7.sl_sz.2.1⟩
theorem own_row{H:Heap}{a b:AV}{r:RowE}{ks js:List Nat}(h1:Own H a (bys r.row) ks)(h2:Own H b (.sl 4 (r.cells.map Zj)) js):Own H (.agg [a,b]) (Zf r) (ks++js):=by
 have:=Own.agg (.cons h1 (.cons h2 .nil));simpa [Zf]using this
theorem drop_at2{α:Type}[Inhabited α](l:List α){i:Nat}(h:i<l.length):l.drop i=l.getD i default::l.drop (i+1):=Wi l i h
theorem KV{nf:Nat}{l:List CelE}(h:∀j,j<l.length→bout (l.getD j default).fam 0 ((nf:Int)-1)=false):YY nf l=false:=by
 unfold YY;rw[List.any_eq_false];intro c hc;obtain⟨i,hi,he⟩:=List.mem_iff_getElem.1 hc;have:=h i hi;rw[List.getD,List.getElem?_eq_getElem hi]at this;simp only[Option.getD_some,he]at this;simp[this]
theorem Py{nf:Nat}{l:List CelE}{i:Nat}(hi:i<l.length)(h:bout (l.getD i default).fam 0 ((nf:Int)-1)=true):YY nf l=true:=by
 unfold YY;rw[List.any_eq_true];exact⟨_,Yj l hi,h⟩
theorem NC40.eqs{P Q:Prop}(g:Imp P Q:=by(try simp only[go_sem,seval,hszs,hags,hmos,hszq,hagq,hmoq,x1,x2,x3,x4,x5,y1,y2,y3,y4,y5,y6,y7,f1,f2,f3,f4,f5,f6,b1,b2,b3,b6,b9,hrw,hE8,hce,c1,c2,c3,c4,c5,c6,g5,g6,hx1,hs,hql,z1,z3,hs2,z4,z6,hs3,z7,z9,KE,Yt,YE,Xd,Xe,Xf,YH,qg,qb,qd,Um,qaX]);exact Imp.rf):Imp P Q:=g
theorem NC40.sd{P:Prop}(g:P:=by first | (intro _ h9;rw[h9];rfl) | exact⟨rfl,by(simp[AV.sz,AV.szs,AV.memOK,z1,z3,z4,z6];first | done | fail)⟩ | exact⟨Nat.le_refl _,.inr trivial,om,om⟩ | fail):P:=g
set_option maxRecDepth 100000 in
set_option maxHeartbeats 12800000 in
open NC40 NZ in
theorem x_query_Run(fs : List Fml)(hfs : fs.length ≤ 1048576)(q : QryE)(hqf : q.fine)(clock : Int)(rows : List RowE)(err : Int)(hrw : YA rows){kq : List Nat}{f t m0 p k : AV}(ks kw kt lo vw0 vt0 : Nat){H : Heap}{n : Nat}(hG : GOK 1 1 H n)
   (hQ:QL kq H q f t m0 p k) (hkq:∀j∈kq,j<n∧j≠ks∧j≠kw∧j≠kt) (hS:SrcS rows err ks kw kt lo 0 vw0 vt0 [] [] [] H n):
   Zn prog 18 [Zh fs,qaX q f t m0 p k,.int .i64 clock,.iface 52 (.loc ks 0 0 0 [])] H n (RunK rows err ks kw kt lo (runE fs q clock (some (rows,err))) H n):=by
 obtain⟨hrl,hrb⟩:=hrw;obtain⟨d1,d2,d3,d4,d5,d6,d7⟩:=hS.d;have hgk:1≠ks∧1≠kw∧1≠kt∨(1:Nat)=1:=by
   by_cases hne:(1:Nat)=1
   ·exact .inr hne
   ·left;have V:=hG.kindsC hne;exact kbV
 have hgt:1≠ks∧1≠kw∧1≠kt:=by
   have V:=hG.table;exact kbV
 have hGc:∀(Hc:Heap) (nc:Nat),(∀k,k<n→k≠ks→k≠kw→k≠kt→Hc k=H k)→n≤nc→GOK 1 1 Hc nc:=fun Hc nc hc hn=>hG.at2 (by
   rcases hgk with h | h
   ·exact hc _ hG.gek h.1 h.2.1 h.2.2
   ·rw[h];exact hc _ hG.get hgt.1 hgt.2.1 hgt.2.2) (hc _ hG.get hgt.1 hgt.2.1 hgt.2.2) hn
 have hQc:∀(Hc:Heap),(∀k,k<n→k≠ks→k≠kw→k≠kt→Hc k=H k)→QL kq Hc q f t m0 p k:=fun Hc hc=>hQ.on fun j hj=>by have:=hkq j hj;exact hc j this.1 this.2.1 this.2.2.1 this.2.2.2
 have hszs:(Zh fs).sz=1:=rfl;have hags:(Zh fs).isAgg=true:=rfl;have hmos:(Zh fs).memOK=true:=rfl;have hszq:(qaX q f t m0 p k).sz=10:=hQ.sz;have hagq:(qaX q f t m0 p k).isAgg=true:=rfl;have hmoq:(qaX q f t m0 p k).memOK=true:=rfl;obtain⟨z,hz⟩:∃z,z=runE fs q clock (some (rows,err)):=⟨_,rfl⟩;rw[←hz];unfold runE at hz;have x1:=hQ.f.sz;have x2:=hQ.t.sz;have x3:=hQ.m.sz;have x4:=hQ.p.sz;have x5:=hQ.k.sz;have y1:=hQ.f.st;have y2:=hQ.t.st;have y3:=hQ.t.len;have y4:=hQ.f.ag;have y5:=hQ.t.ag;have y6:=hQ.f.mo;have y7:=hQ.t.mo;have f1:(n=n+1)=False:=osi;have f2:(n+1=n+2)=False:=osi;have f3:(n+1=n)=False:=osi;have f4:(n=n+2)=False:=osi;have f5:(n+2=n+1)=False:=osi;have f6:(n+2=n)=False:=osi;have b1:=d7;have b2:=d7;have b3:=d7;have b6:=d7;have b9:=d7;have hrw:=d7;have hE8:=d7;have hce:=d7;have c1:=d7;have c2:=d7;have c3:=d7;have c4:=d7;have c5:=d7;have c6:=d7;have g5:=d7;have g6:=d7;have hx1:=d7;have hs:=d7;have hql:=d7;have z1:=d7;have z3:=d7;have hs2:=d7;have z4:=d7;have z6:=d7;have hs3:=d7;have z7:=d7;have z9:=d7;refine fw func18 ntmps18 results18 ?_;refine rg zs [2,3,4,5,8] ?_;refine Za fun K1 hK1=> ?_;refine rk zs [2,3,4,5,8,10] fun K V=> ?_;refine ck func34 ((l_query_Check fs hfs hqf (hGc _ _ (fun k h1 h2 h3 h4=>oh) om) (hQc _ (fun k h1 h2 h3 h4=>oh)))) ?_;apply V;clear V K;refine rg zs [2,3,4,5,8,10,30] ?_;refine Zb ?_ ?_<;>intro hb
 ·have hc0:qcE fs q≠0:=osb;rw[if_pos hc0]at hz;refine rg zs [8,9] ?_;refine ar ?_
  first
  | (refine RunK.none hz om (fun k h1 h2 h3 h4 => ?_) (hS.on (fun k hk => ?_) om) osi (fun k hk => by cases hk)
     ·exact oh
     ·have h9:k<n:=by(rcases hk with rfl | rfl | rfl | hk;omega;omega;omega;cases hk)
      (try simp only[Rl]);(repeat first | rw[if_pos rfl] | rw[if_pos trivial] | rw[if_neg om]))
 have hc0:qcE fs q=0:=osb;rw[if_neg (by simp[hc0])]at hz;refine ak ?_;apply hK1;refine rk zs [3,4,5,8,11,12] fun K V=> ?_;refine ck func36 ((l_query_At hqf clock (hGc _ _ (fun k h1 h2 h3 h4=>oh) om) (hQc _ (fun k h1 h2 h3 h4=>oh)))) ?_;apply V;clear V K;refine Za fun K2 hK2=> ?_;refine rg zs [3,4,5,8,11,44] ?_;refine Zb ?_ ?_<;>intro hb
 ·have ha0:(atE q clock).2≠0:=osb;rw[if_pos ha0]at hz;refine rg zs [8,9] ?_;refine ar ?_
  first
  | (refine RunK.none hz om (fun k h1 h2 h3 h4 => ?_) (hS.on (fun k hk => ?_) om) osi (fun k hk => by cases hk)
     ·exact oh
     ·have h9:k<n:=by(rcases hk with rfl | rfl | rfl | hk;omega;omega;omega;cases hk)
      (try simp only[Rl]);(repeat first | rw[if_pos rfl] | rw[if_pos trivial] | rw[if_neg om]))
 have ha0:¬(atE q clock).2≠0:=osb;rw[if_neg ha0]at hz;refine ak ?_;apply hK2;refine rg zs [3,4,5,8,11,13] ?_;refine ZG (fun H' n'=>H' n=some (.arr 0 1 [Zh fs])∧H' (n+1)=some (.arr 0 10 [qaX q f t m0 p k])∧H' (n+2)=some (.arr 0 3 [.agg [.nilsl,.nilsl,.bool false]])∧(∀k,k<n→H' k=H k)∧n'=n+3) ⟨ohr,ohr,oh,fun k hk=>oh,rfl⟩ fun Hb nb ⟨b1,b2,b3,b4,b5⟩=> ?_;subst b5;refine ZL [3,4,5,8,11,13] (fun T' H' n'=>T'=tl [(3,.iface 52 (.loc ks 0 0 0 [])),(4,.loc n 0 0 0 []),(5,.loc (n+1) 0 0 0 []),(8,.loc (n+2) 0 0 0 []),(11,.int .i64 (atE q clock).1),(13,Un (Z6 fs q))]∧H'=Hb∧n'=n+3) ?_ ?_
 ·refine rg zs [3,4,5,8,11,13,49] ?_;refine Zb ?_ ?_<;>intro hb
  ·have hw0:0<q.whr.length:=ott;obtain⟨px,hpx⟩:=parse_ok hc0 hw0;have hT:=Nt hw0 hpx;refine rc1 zs [3,4,5,8,11,13] func51 ((hpx▸UE fs hfs q.whr _ _)) ?_;refine ns ?_;rw[hT];first | done | rfl | exact⟨rfl,rfl,rfl⟩ | exact⟨rfl,rfl⟩
  have hT:=Nu (fs:=fs) (q:=q) (fun h=>otf);refine ak ?_;refine ns ?_;rw[hT];first | done | rfl | exact⟨rfl,rfl,rfl⟩ | exact⟨rfl,rfl⟩
 rintro T9 H9 n9 ⟨rfl,rfl,rfl⟩;refine rk zs [3,4,5,8,11,13,14,15] fun K V=> ?_;refine ck func24 ((Uz hqf (hGc _ _ (fun k h1 _ _ _=>b4 k h1) om) (hQc _ (fun k h1 _ _ _=>b4 k h1)))) ?_;apply V;clear V K;refine rg zs [3,4,5,8,11,13,14,15,17] ?_;refine rg zs [3,4,5,8,11,13,14,15,17,18] ?_;refine Zq ?_;refine ZO (n+3) 2 (ver:=0) (e:=3) (els:=[.agg [.nilsl,.nilsl,.bool false]]) (els':=[.agg [.osl (n+4) 0 0 0,.nilsl,.bool false]]) oh ⟨Adp.agg ⟨Adp.nilsl _,.refl _ _,.refl _ _,trivial⟩,trivial⟩ ?_;refine ZG (fun H' n'=>RnS fs (qaX q f t m0 p k) rows err ks kw kt lo 0 n [] 0 [] [] vw0 vt0 [] [] [] H H' n') ?_ fun H6 n6 hR=> ?_
 ·refine⟨?_,?_,?_,?_,?_,Pile.nil _ _ _,hS.on (fun k hk=> ?_) om,fun k hk=>(by cases hk),fun k h1 h2 h3 h4=> ?_,om,osi⟩
  ·refine ohx ?_;exact b1
  ·refine ohx ?_;exact b2
  ·refine ohx ?_;exact b3
  ·refine ohx ?_;rfl
  ·exact oh
  ·have h9:k<n:=by(rcases hk with rfl | rfl | rfl | hk;omega;omega;omega;cases hk)
   refine ohx ?_;exact b4 k h9
  ·refine ohx ?_;exact b4 k h1
 refine Zk (fun T' H' n'=>∃(m:Nat) (last:Option (List UInt8)) (acc:List RowE) (ver:Nat) (els:List AV) (pk:List Nat) (vw vt:Nat) (kb:List (Nat×List UInt8)) (tels:List AV) (tk:List Nat),m≤rows.length∧T'=tl [(3,.iface 52 (.loc ks 0 0 0 [])),(4,.loc n 0 0 0 []),(5,.loc (n+1) 0 0 0 []),(8,.loc (n+2) 0 0 0 []),(11,.int .i64 (atE q clock).1),(13,Un (Z6 fs q)),(14,bys (Zv q).1),(15,.bool (Zv q).2.1),(17,.loc (n+3) 0 0 0 []),(18,Ki last)]∧RnS fs (qaX q f t m0 p k) rows err ks kw kt lo m n acc ver els pk vw vt kb tels tk H H' n'∧(∀l,last=some l→l≠[])∧runG fs.length q (Z6 fs q) (tokB q (atE q clock).1) (Zv q).1 (Zv q).2.1 err m last acc (rows.drop m)=z) (fun _ H' _=>rows.length-Nl (H' ks)) ?_ ?_
 ·exact⟨0,none,[],0,[],[],vw0,vt0,[],[],[],Nat.zero_le _,rfl,hR,fun l h=>(by cases h),by rw[hz,List.drop_zero]⟩
 rintro T1 H1 n1 ⟨m,last,acc,ver,els,pk,vw,vt,kb,tels,tk,hm,rfl,hR,hlast,hzz⟩;have hb8:=hR.b;have hlt8:=hR.lt;have hask:Nl (H1 ks)=m:=by rw[hR.src.ho];exact Jn
 obtain⟨Hh,hHh⟩:∃h,h=H1:=⟨_,rfl⟩;subst hHh;obtain⟨nh,hnh⟩:∃h,h=n1:=⟨_,rfl⟩;subst hnh;refine Zq ?_;rcases Nat.lt_or_ge m rows.length with hlt | hge
 ·refine MQ zs [3,4,5,8,11,13,14,15,17,18,19,20,21] 1 rfl (by first | trivial | (show _<_;decide)) fun K V=> ?_;refine nz ?_;refine nz ?_;refine callI_use Qa func187 rfl rfl (Kr rows err hrl hrb ks kw kt lo m vw vt kb tels tk _ _ hR.src om om om) ?_ ?_
  ·intro p H' n' hc;exact hc.pan.elim
  intro rr H2 n2 hc;have hn2:=hc.1
  first
  | (obtain ⟨k1, k2, v2, js, vw2, vt2, kb2, tels2, tk2, rfl, ho, hjs, hs2, htk2, hb1, hb2⟩ := hc.told hlt
     have hR2:=hR.next hc.1 hc.2.1 hs2 htk2 hb1 (by have:=(hrb _ (Yj rows hlt)).2.1;omega);have hdr:=drop_at2 rows hlt;have hrx:=hrb _ (Yj rows hlt);generalize rows.getD m default=x at *)
  refine nz ?_;apply V;clear V K;refine bk fun K3 hK3=> ?_
  first
  | (refine ZG (fun H' n' => RnS fs (qaX q f t m0 p k) rows err ks kw kt lo (m + 1) n acc ver els pk vw2 vt2 kb2 tels2 tk2 H H' n' ∧ H' n2 = some (.arr 0 2 [.agg [.osl k1 2 0 x.row.length, .osl k2 v2 0 x.cells.length]]) ∧ Own H' (.agg [.osl k1 2 0 x.row.length, .osl k2 v2 0 x.cells.length]) (Zf x) js ∧ n' = n2 + 1) ⟨hR2.on (fun k hk => Rk _ _ om) om, Rm _ _ _, ho.frame (fun k hk => Rk _ _ (by have := hjs k hk; omega)), rfl⟩ fun H7 n7 ⟨hR7, hrw, ho7, hn7⟩ => ?_
     rw[hdr]at hzz;unfold runG at hzz)
  have b1:=hR7.hs;have b2:=hR7.hq;have b3:=hR7.hz;have b6:=hR7.hp;have b9:=hR7.hl;refine rg zs [3,4,5,8,11,13,14,15,17,18,19,20,21,71] ?_;refine Zb ?_ ?_<;>intro hb
  ·exact absurd hb osi
  refine rg zs [3,4,5,8,11,13,14,15,17,18,19,76] ?_;refine Zb ?_ ?_<;>intro hb
  ·exact absurd hb osi
  obtain⟨j1,j2,hjj,o1,o2⟩:=Own.agg2 ho7;obtain⟨els2,js3,hj3,hE,hl2,hL2⟩:=Own.osl_inv o2;have hj1:∀j∈j1,j<n7:=fun j hj=>by have:=hjs j (by rw[hjj];simp[hj]);omega
  have hj2:∀j∈j2,j<n7:=fun j hj=>by have:=hjs j (by rw[hjj];simp[hj]);omega
  have hk2:k2<n7:=hj2 k2 (by rw[hj3];simp);have hra:=o1.lsl;have hca:=o2.lsl;have hQ7:=hQc H7 hR7.low;refine rc zs [3,4,5,8,11,13,14,15,17,19,81] func52 ((M3 hQ7 hra last hlast (Zv q).1 (Zv q).2.1 _)) ?_;refine Zb ?_ ?_<;>intro hb
  ·have hfo:Yw q x.row last (Zv q).1 (Zv q).2.1=false:=osb;rw[if_pos hfo]at hzz;refine rg zs [8,9] ?_;refine ar ?_;refine hR7.none hzz.symm om (fun k h1 h2=> ?_);exact oh
  have hfo:Yw q x.row last (Zv q).1 (Zv q).2.1=true:=osb;rw[if_neg (by simp[hfo])]at hzz;have h256:x.row.length≠0∧x.row.length≤256:=by unfold Yw at hfo;by_cases h9:x.row.length=0∨256<x.row.length;(rw[if_pos h9]at hfo;cases hfo);omega
  refine ak ?_;apply hK3;refine Za fun K4 hK4=> ?_;refine rg zs [3,4,5,8,11,13,14,15,17,19,92,93,94] ?_;refine Zq ?_;refine Zk (fun T' H' n'=>∃i:Nat,i≤x.cells.length∧(∀j,j<i→bout (x.cells.getD j default).fam 0 ((fs.length:Int)-1)=false)∧T'=tl [(3,.iface 52 (.loc ks 0 0 0 [])),(4,.loc n 0 0 0 []),(5,.loc (n+1) 0 0 0 []),(8,.loc (n+2) 0 0 0 []),(11,.int .i64 (atE q clock).1),(13,Un (Z6 fs q)),(14,bys (Zv q).1),(15,.bool (Zv q).2.1),(17,.loc (n+3) 0 0 0 []),(19,.loc n2 0 0 0 []),(92,.osl k2 v2 0 x.cells.length),(93,.int .i64 x.cells.length),(94,.int .i64 i)]∧(∀k,k<n7→H' k=H7 k)∧n7≤n') (fun T' _ _=>x.cells.length-iv (T' 94)) ?_ ?_
  ·exact⟨0,Nat.zero_le _,fun j h=>om,rfl,fun _ _=>rfl,Nat.le_refl _⟩
  rintro T1 H1 n1 ⟨i,hi,hfa,rfl,hH8,hn8⟩;have hR8:=hR7.on hH8 hn8;have b1:=hR8.hs;have b2:=hR8.hq;have b3:=hR8.hz;have b6:=hR8.hp;have hrw:=(hH8 n2 om).trans hrw;have hE8:=(hH8 k2 hk2).trans hE;refine Zg zs [3,4,5,8,11,13,14,15,17,19,92,93,94,95] fun K V=> ?_
  try simp only[go_sem,seval,hszs,hags,hmos,hszq,hagq,hmoq,x1,x2,x3,x4,x5,y1,y2,y3,y4,y5,y6,y7,f1,f2,f3,f4,f5,f6,b1,b2,b3,b6,b9,hrw,hE8,hce,c1,c2,c3,c4,c5,c6,g5,g6,hx1,hs,hql,z1,z3,hs2,z4,z6,hs3,z7,z9,KE,Yt,YE,Xd,Xe,Xf,YH,qg,qb,qd,Um,qaX,Zh,Y6]
  repeat refine peel ?_
  apply V;clear V K;refine Za fun K5 hK5=> ?_;refine Zb ?_ ?_<;>intro hb
  ·have hci:i<x.cells.length:=ott;obtain⟨_,_,_,_,_,hcn,_⟩:=OwnL.nth hL2 (i:=i) (by rw[qk];omega);have hnt:nth (els2.take x.cells.length) i=nth els2 i:=by simp[nth,List.getD,hci]
   rw[hnt,Zr Zj x.cells i hci]at hcn;obtain⟨cb,cd,hce,c1,c2,c3,c4,c5,c6⟩:=own_cel_inv hcn;have g5:(n=n1)=False:=oz;have g6:(n+2=n1)=False:=oz;have hx1:IntKind.i64.wrap ((i:Int)+1)=((i+1:Nat):Int):=w1 om;refine ak ?_;apply hK5;refine bk fun K6 hK6=> ?_;refine rg zs [3,4,5,8,11,13,14,15,17,19,23,92,93,94] ?_;refine Zg zs [3,4,5,8,11,13,14,15,17,19,92,93,94,108] fun K V=> ?_
   try simp only[go_sem,seval,hszs,hags,hmos,hszq,hagq,hmoq,x1,x2,x3,x4,x5,y1,y2,y3,y4,y5,y6,y7,f1,f2,f3,f4,f5,f6,b1,b2,b3,b6,b9,hrw,hE8,hce,c1,c2,c3,c4,c5,c6,g5,g6,hx1,hs,hql,z1,z3,hs2,z4,z6,hs3,z7,z9,KE,Yt,YE,Xd,Xe,Xf,YH,qg,qb,qd,Um,qaX,hszs,hags,hmos,g5,b1,Zh,qb,c1,c2,c3,c4,c5,c6]
   repeat refine peel ?_
   apply V;clear V K;refine Zb ?_ ?_<;>intro hb
   ·have hfo1:YY fs.length x.cells=true:=Py hci (by unfold bout;have h9:=hb;simp at h9 ⊢;omega);rw[if_pos hfo1]at hzz;refine rg zs [8,9] ?_;refine ar ?_;refine hR8.none hzz.symm om (fun k h1 h2=> ?_);exact oh
   have hfo1:bout (x.cells.getD i default).fam 0 ((fs.length:Int)-1)=false:=by unfold bout;have h9:=hb;simp at h9 ⊢;omega
   refine ak ?_;apply hK6;refine rg1 zs [3,4,5,8,11,13,14,15,17,19,92,93,94] ?_;exact⟨⟨i+1,om,fun j hj=>(by rcases Nat.lt_or_ge j i with h | h;exact hfa j h;rw[show j=i by omega];exact hfo1),rfl,fun k hk=>ohx (hH8 k hk),by omega⟩,by omega⟩
  have hci:i=x.cells.length:=otf;subst hci;have hfn:=KV hfa;rw[if_neg (by rw[hfn];simp)]at hzz;have hQ8:=hQc H1 hR8.low;have hra8:=hra.on fun j hj=>hH8 j (hj1 j hj);have hca8:=hca.on fun j hj=>hH8 j (hj2 j hj);refine ax ?_;apply hK4;refine rk zs [3,4,5,8,11,13,14,15,17,18,19] fun K V=> ?_;refine ck func53 ((OAns.fin (Pg hra8 om _))) ?_;apply V;clear V K;refine rk zs [3,4,5,8,11,13,14,15,17,18,19,24] fun K V=> ?_;refine cg func54 (fun _=>(QF hra8 hQ8.t _)) ?_;refine cg func54 (fun _=>(QF hra8 hQ8.f _)) ?_;apply V;clear V K;refine Za fun K7 hK7=> ?_;refine rg zs [3,4,5,8,11,13,14,15,17,18,19,143] ?_;refine Zb ?_ ?_<;>intro hb
  ·have hbe:WE q x.row=true:=by unfold WE;have h9:=hb;simp at h9 ⊢;grind
   rw[if_pos hbe]at hzz;refine rg zs [8,17] ?_;refine rg zs [8,9] ?_;refine ar ?_;refine hR8.done (tok:=[]) (b:= .nilsl) (js:=[]) hzz.symm om (fun k h1 h2 h3=> ?_) .nilsl List.nodup_nil (fun k hk=>by cases hk);exact oh
  have hbe:WE q x.row=false:=by unfold WE;have h9:=hb;simp at h9 ⊢;grind
  rw[if_neg (by simp[hbe])]at hzz;refine ak ?_;apply hK7;refine rk zs [3,4,5,8,11,13,14,15,17,18,25] fun K V=> ?_;refine cK func55 (MZ hQ8 hqf.fams (Z6 fs q) hca8 hrx.2.1 hrx.2.2 _) ?_ ?_
  ·intro p H' n' hc;exact hc.pan.elim
  intro rr H9 n9 hc;obtain⟨cj,hM⟩:=hc.got;have hn9:=hM.nn;have hs:=fun g=>hM.own.strip g;have hql:=hM.own.qLen prog 94;rw[qb]at hql;obtain⟨z1,z2,z3⟩:=hM.own.sl_sz;have hR9:=hR8.on hM.low hM.nn;refine nz ?_;apply V;clear V K;refine Za fun K8 hK8=> ?_;refine rg zs [3,4,5,8,11,13,14,15,17,18,25,153] ?_;refine Zb ?_ ?_<;>intro hb
  ·have hch:ZI q (Z6 fs q) x.cells=[]:=osb;rw[if_pos hch]at hzz;refine Yl [3,4,5,8,11,13,14,15,17,18] ?_;simp only[go_sem,seval];refine ax ?_
   first
   | (refine ⟨⟨m + 1, some x.row, acc, ver, els, pk, vw2, vt2, kb2, tels2, tk2, om, rfl, hR9, fun l hl => ?_, hzz⟩, ?_⟩
      ·cases hl;intro e;exact h256.1 (by rw[e];rfl)
      ·rw[hask,hR9.src.ho,Jn];omega)
  have hch:¬ZI q (Z6 fs q) x.cells=[]:=osb;rw[if_neg hch]at hzz;refine ak ?_;apply hK8;have b6:=hR9.hp;refine dx zs [3,4,5,8,11,13,14,15,17,18] [.q,.q,.m,.w [0,1],.m,.q,.q,.w [],.q,.w []] [0,1,2,4,3,5,6,7,8,9] [0,1,2,4,3,5,6,7,8,9] fun K V=> ?_;refine cK func53 (Xa x.row om _ _) ?_ ?_
  ·intro p H' n' hc;exact hc.pan.elim
  intro r2 H10 n10 hc;obtain⟨dj,hM2⟩:=hc.got;have hs2:=fun g=>hM2.own.strip g;obtain⟨z4,z5,z6⟩:=hM2.own.sl_sz;have hR10:=hR9.on hM2.low hM2.nn;have b6:=hR10.hp;have b9:=hR10.hl;refine nz ?_;apply V;clear V K;rw[List.take_of_length_le (Nat.le_refl els.length)];have hn10:=hM2.nn;have hlen:(els++[AV.agg [r2,rr]]).length=els.length+1:=osi;have hal:acc.length=els.length:=by have:=hR.pile.own.len;simpa using this.symm
  refine ZG (fun H' n'=>RnS fs (qaX q f t m0 p k) rows err ks kw kt lo (m+1) n (acc++[⟨x.row,ZI q (Z6 fs q) x.cells⟩]) (ver+1) (els++[.agg [r2,rr]]) (pk++(dj++cj)) vw2 vt2 kb2 tels2 tk2 H H' n') (hR8.add om om (fun k h1 h2 h3=> ?_) (Rm _ _ _) ?_ (own_row (r:=⟨x.row,ZI q (Z6 fs q) x.cells⟩) (hM2.own.frame fun k hk=> ?_) (hM.own.frame fun k hk=> ?_)) (List.nodup_append.2 ⟨hM2.nd,hM.nd,fun a ha b hb e=>by have:=hM2.lo a ha;have:=hM.lo b hb;omega⟩) (fun k hk=> ?_)) fun H11 n11 hR11=> ?_
  ·refine ohx ?_;rw[hM2.low k om,hM.low k om]
  ·exact oh
  ·have:=hM2.lo k hk;(try simp only[Rl]);(repeat first | rw[if_pos rfl] | rw[if_pos trivial] | rw[if_neg om])
  ·have:=hM.lo k hk;refine ohx ?_;exact hM2.low k om
  ·rcases List.mem_append.1 hk with h | h;(have:=hM2.lo k h;omega);(have:=hM.lo k h;omega)
  have b2:=hR11.hq;have b3:=hR11.hz;have b6:=hR11.hp;rw[hlen]at b6;refine rg zs [3,4,5,8,11,13,14,15,17,18,168] ?_;refine Zb ?_ ?_<;>intro hb
  ·have hrn:((acc.length+1:Nat):Int)=q.rows:=by rw[hal];simpa using hb
   rw[if_pos hrn]at hzz;refine rk zs [8,17] fun K V=> ?_;refine cK func56 (Pe hqf (hGc H11 n11 hR11.low (by have:=hR11.lt;omega)) (hQc H11 hR11.low) (atE q clock).1 x.row h256.2) ?_ ?_
   ·intro p H' n' hc;exact hc.pan.elim
   intro r3 H12 n12 hc;obtain⟨ej,hM3⟩:=hc.got;have hs3:=fun g=>hM3.own.strip g;obtain⟨z7,z8,z9⟩:=hM3.own.sl_sz;have hR12:=hR11.on hM3.low hM3.nn;have hn12:=hM3.nn;have hlt11:=hR11.lt;have b3:=hR12.hz;have b6:=hR12.hp;rw[hlen]at b6;refine nz ?_;apply V;clear V K;refine rg zs [8,9] ?_;refine ar ?_
   first
   | (rw [← hlen]
      refine hR11.done (tok:=tokB q (atE q clock).1 x.row) hzz.symm om (fun k h1 h2 h3=> ?_) (hM3.own.frame fun k hk=> ?_) hM3.nd (fun k hk=>hM3.lo k hk)
      ·refine ohx ?_;exact hM3.low k om
      ·have:=hM3.lo k hk;exact oh)
  have hrn:¬((acc.length+1:Nat):Int)=q.rows:=by rw[hal];simpa using hb
  rw[if_neg hrn]at hzz;refine Yl [3,4,5,8,11,13,14,15,17,18] ?_;simp only[go_sem,seval];refine ak ?_
  first
  | (refine ⟨⟨m + 1, some x.row, _, _, _, _, vw2, vt2, kb2, tels2, tk2, om, rfl, hR11, fun l hl => ?_, hzz⟩, ?_⟩
     ·cases hl;intro e;exact h256.1 (by rw[e];rfl)
     ·rw[hask,hR11.src.ho,Jn];omega)
 ·refine MQ zs [3,4,5,8,11,13,14,15,17,18,19,20,21] 1 rfl (by first | trivial | (show _<_;decide)) fun K V=> ?_;refine nz ?_;refine nz ?_;refine callI_use Qa func187 rfl rfl (Kr rows err hrl hrb ks kw kt lo m vw vt kb tels tk _ _ hR.src om om om) ?_ ?_
  ·intro p H' n' hc;exact hc.pan.elim
  intro rr H2 n2 hc;have hn2:=hc.1
  first
  | (obtain ⟨vw2, vt2, tels2, rfl, hs2, hb1⟩ := hc.past hge
     have hR2:=hR.next hc.1 hc.2.1 hs2 (fun k hk=> .inl hk) hb1 om)
  refine nz ?_;apply V;clear V K;refine bk fun K3 hK3=> ?_
  first
  | (refine ZG (fun H' n' => RnS fs (qaX q f t m0 p k) rows err ks kw kt lo (m + 1) n acc ver els pk vw2 vt2 kb tels2 tk H H' n' ∧ n' = n2 + 1) ⟨hR2.on (fun k hk => Rk _ _ om) om, rfl⟩ fun H7 n7 ⟨hR7, hn7⟩ => ?_
     rw[List.drop_eq_nil_of_le hge]at hzz;unfold runG at hzz)
  have b1:=hR7.hs;have b2:=hR7.hq;have b3:=hR7.hz;have b6:=hR7.hp;have b9:=hR7.hl;refine rg zs [3,4,5,8,11,13,14,15,17,18,19,20,21,71] ?_;refine Zb ?_ ?_<;>intro hb
  ·have he0:err≠0:=osb;rw[if_pos he0]at hzz;refine rg zs [8,9] ?_;refine ar ?_;refine hR7.none hzz.symm om (fun k h1 h2=> ?_);exact oh
  have he0:¬err≠0:=osb;rw[if_neg he0]at hzz;refine rg zs [3,4,5,8,11,13,14,15,17,18,19,76] ?_;refine Zb ?_ ?_<;>intro hb
  ·refine rg zs [8,17] ?_;refine rg zs [8,9] ?_;refine ar ?_;refine hR7.done (tok:=[]) (b:= .nilsl) (js:=[]) hzz.symm om (fun k h1 h2 h3=> ?_) .nilsl List.nodup_nil (fun k hk=>by cases hk);exact oh
  exact absurd hb osi
open Go.ChangeShapes Go.WideShapes Go.ChangeAt Go.RowKit
theorem sInts_av2{a:AV}{m:Nat}(h:SInts a m):∃l:List Int,a=Zx l∧l.length+1≤m:=by
 obtain⟨l,h1,h2,_⟩:=Kw (f:=fun x=>AV.int .i64 x) (q:=fun _=>0) (fun a m ⟨n,h1,h2,h3⟩=>⟨n,h1,Nat.zero_le _,om⟩) h;exact⟨l,h1,h2⟩
theorem sQry_av2{a:AV}{m:Nat}(h:SQry a m):∃x:QryE,a=Ze x∧x.frm.length≤m∧x.to.length≤m∧x.fams.length≤m∧x.pre.length≤m∧x.whr.length≤m∧x.token.length≤m∧(Lit.int .i64 x.time).wf=true:=by
 obtain⟨xs,rfl,hx,rfl⟩:=h;obtain⟨x0,xs,rfl,h0,hx⟩:=ZE hx;obtain⟨x1,xs,rfl,h1,hx⟩:=ZE hx;obtain⟨x2,xs,rfl,h2,hx⟩:=ZE hx;obtain⟨x3,xs,rfl,h3,hx⟩:=ZE hx;obtain⟨x4,xs,rfl,h4,hx⟩:=ZE hx;obtain⟨x5,xs,rfl,h5,hx⟩:=ZE hx;obtain⟨x6,xs,rfl,h6,hx⟩:=ZE hx;obtain⟨x7,xs,rfl,h7,hx⟩:=ZE hx;obtain⟨x8,xs,rfl,h8,hx⟩:=ZE hx;obtain⟨x9,xs,rfl,h9,hx⟩:=ZE hx;obtain rfl:=Jo hx;obtain⟨n0,e0,l0⟩:=Vh h0;obtain⟨n1,e1,l1⟩:=Vh h1;obtain⟨n2,e2,l2⟩:=sInts_av2 h2;obtain⟨n3,e3,l3⟩:=Vh h3;obtain⟨n4,e4,w4,_⟩:=h4;obtain⟨n5,e5,_,_⟩:=h5;obtain⟨n6,e6,_,_⟩:=h6;obtain⟨n7,e7,_⟩:=h7;obtain⟨n8,e8,l8⟩:=h8;obtain⟨n9,e9,l9⟩:=Vh h9;refine⟨⟨n0,n1,n2,n3,n4,n5,n6,n7,n8,n9⟩,by simp[Ze,e0,e1,e2,e3,e4,e5,e6,e7,e8,e9],?_⟩;simp only[List.map_cons,List.map_nil,List.sum_cons,List.sum_nil];exact⟨om,om,om,om,om,om,w4⟩
def celQ(c:CelE):Nat:=max c.qual.length c.value.length
def rowQ(r:RowE):Nat:=max r.row.length (max r.cells.length (r.cells.foldr (fun c a=>max (celQ c) a) 0))
theorem fold_le{l:List CelE}{m:Nat}(h:∀c∈l,celQ c≤m):l.foldr (fun c a=>max (celQ c) a) 0≤m:=by
 exact kbQ
theorem le_fold{l:List CelE}{c:CelE}(h:c∈l):celQ c≤l.foldr (fun c a=>max (celQ c) a) 0:=by
 exact kbX
theorem sCel_av2{a:AV}{m:Nat}(h:SCel a m):∃x:CelE,a=Zj x∧celQ x≤m∧1≤m:=by
 obtain⟨xs,rfl,hx,rfl⟩:=h;obtain⟨x0,xs,rfl,h0,hx⟩:=ZE hx;obtain⟨x1,xs,rfl,h1,hx⟩:=ZE hx;obtain⟨x2,xs,rfl,h2,hx⟩:=ZE hx;obtain⟨x3,xs,rfl,h3,hx⟩:=ZE hx;obtain rfl:=Jo hx;obtain⟨n0,e0,_,_⟩:=h0;obtain⟨n1,e1,l1⟩:=Vh h1;obtain⟨n2,e2,_,_⟩:=h2;obtain⟨n3,e3,l3⟩:=Vh h3;refine⟨⟨n0,n1,n2,n3⟩,by simp[Zj,e0,e1,e2,e3],?_,om⟩;simp only[celQ,List.map_cons,List.map_nil,List.sum_cons,List.sum_nil];omega
theorem sRow_av2{a:AV}{m:Nat}(h:SRow a m):∃x:RowE,a=Zf x∧rowQ x≤m∧1≤m:=by
 obtain⟨xs,rfl,hx,rfl⟩:=h;obtain⟨x0,xs,rfl,h0,hx⟩:=ZE hx;obtain⟨x1,xs,rfl,h1,hx⟩:=ZE hx;obtain rfl:=Jo hx;obtain⟨n0,e0,l0⟩:=Vh h0;obtain⟨n1,e1,hl,hc⟩:=Kw (f:=Zj) (q:=celQ) (fun a m h=>sCel_av2 h) h1;refine⟨⟨n0,n1⟩,by simp[Zf,e0,e1],?_,om⟩;have:=fold_le hc;simp only[rowQ,List.map_cons,List.map_nil,List.sum_cons,List.sum_nil];omega
theorem rowQ_spec{r:RowE}{m:Nat}(h:rowQ r≤m):r.row.length≤m∧r.cells.length≤m∧∀c∈r.cells,c.qual.length≤m∧c.value.length≤m:=by
 unfold rowQ at h;refine⟨om,om,fun c hc=> ?_⟩;have:=le_fold hc;have e:celQ c=max c.qual.length c.value.length:=rfl;omega
section
variable {H:Type}{enc:TypeId×Value→H}{W:World}
set_option maxRecDepth 100000 in
theorem argQryT{v : Value}{d : DataW H}{ps : List MemPlace}(hv : Value.okWide prog W .any 0 25 v)(h : DataW.Trod enc prog W 0 (fun _ => true) true 25 v d ps)(hb : Rows.uptoBulk d ≤ 1048576):
   ∃x:QryE,Rel (c0 W) (Ze x) false [v]∧x.fine∧ -9223372036854775808≤x.time∧x.time<9223372036854775808:=by
 obtain⟨a,m,h1,h2,h3⟩:=LK rQry h;obtain⟨x,rfl,f1,f2,f3,f4,f5,f6,f7⟩:=sQry_av2 h1;refine⟨x,rel_flat h2 (fun _=> ?_) (fun h=>by simp[Ze,AV.isAgg]at h),⟨om,om,om,om,om,om⟩,i64_bd f7⟩;obtain⟨cs,hcs,_⟩:=okWide_struct underlying25 hv;exact⟨cs,hcs⟩
theorem argQry{v : Value}{d : DataW H}{ps : List MemPlace}(hv : Value.okWide prog W .any 0 25 v)(h : DataW.Trod enc prog W 0 (fun _ => true) true 25 v d ps)(hb : Rows.uptoBulk d ≤ 1048576):
   ∃x:QryE,Rel (c0 W) (Ze x) false [v]∧x.fine:=by
 obtain⟨x,h1,h2,_⟩:=argQryT hv h hb;exact⟨x,h1,h2⟩
end
def tabs:List (String×DataW Unit):=[("strata/wire.table",Rows.laid_strata_wire_table)]
theorem var_cells{W:World}{nm:String}{g:Nat}{cs:Array Value}(hg:(prog).globalNamed nm=some g)(h:W.var? prog nm=some cs):∃ty fr,W.heap[g]? =some (.cells cs ty fr):=by
 unfold World.var? at h;rw[hg]at h;simp only[Option.bind_some]at h;split at h
 ·rename_i c ty fr hb;simp only[Option.some.injEq]at h;subst h;exact⟨ty,fr,hb⟩
 ·simp at h
theorem tables{W:World}(h:laidMetH prog tabs W):∃(aT:Array Value) (tT:TypeId) (fT:Nat×Nat),W.heap[1]? =some (.cells aT tT fT)∧At aT 0 (QQ.map fun n=> .int .u32 n):=by
 have h:laidMet prog tabs W:=h;obtain⟨ps,⟨g,t,cs,fuel,p,q,hg,ht,hv,hd,_,_⟩,_⟩:=h;have e1:(prog).globalNamed "strata/wire.table" =some 1:=by kernel_rfl
 have e3:((prog).globals[1]?).map (·.type)=some 197:=by kernel_rfl
 obtain rfl:=Option.some.inj (hg.symm.trans e1);obtain rfl:=Option.some.inj (ht.symm.trans e3);obtain⟨tT,fT,hT⟩:=var_cells e1 hv;refine⟨cs,tT,fT,hT,?_⟩;have hc:cs.toList=QQ.map fun z=>Value.int .u32 z:=Lib.cells_of_tab (zs:=QQ) underlying197 underlying163 (by kernel_rfl) (by kernel_rfl) hd;exact At.self hc
def cG(W:World):Ctx:=⟨fun k v=>if k=1∧v=0 then some .nil else none,(c0 W).ro⟩
def HG:Heap:=fun k=>if k=1 then some (.glob 1 Ux)else none
theorem cG_le(W:World):(c0 W).le (cG W):=⟨fun h=>by simp[c0]at h,fun h=>h⟩
theorem gokG:GOK 1 1 HG 2:=⟨fun h=>absurd rfl h,rfl,odc,odc⟩
theorem simG{W:World}(h:laidMetH prog tabs W):Sim (cG W) HG 2 W where
 ro:=(sim0 W).ro
 own:=fun k o hk=>by
   obtain⟨aT,tT,fT,hT,aT'⟩:=tables h;unfold HG at hk;split at hk
   ·rename_i e;subst e;cases hk;refine⟨by simp[cG],fun x hx=> ?_,aT,_,by simp[cG,c0,hT],?_,aT'⟩
    ·obtain⟨i,_,rfl⟩:=List.mem_map.1 hx;rfl
    ·unfold Ux;generalize QQ=l
     induction l with
     | nil=>simp[RelF]
     | cons n l ih=>simp only[List.map_cons,RelF];exact⟨[_],_,rfl,rfl,ih⟩
   ·simp at hk
 sep:=fun k o b hk hb=>by
   exact kco
 inj:=fun k k' o o' b hk hk' hb _=>by
   exact kco
 fresh:=fun k hk=>⟨by unfold HG;rw[if_neg om],fun v=>by simp only[cG];rw[if_neg om]⟩
 vers:=fun k o v hk hv=>by
   have:¬v=0:=om;simp[cG,this]
theorem retG{f : FuncId}{args : List AV}{W : World}{vs : List Value}(hw : laidMetH prog tabs W)(h : Ret prog f args HG 2 (.bool true) HG 2)(hr : RelT (c0 W) args vs):
   Calls prog f vs.toArray W fun e w'=>e= .returned (.bool true)∧RowKit.Below W.heap.size W w':=
 (h (cG W) W vs (simG hw) (RelT.mono (cG_le W) _ _ hr)).mono fun e w' ⟨res,c',H',n',⟨hres,_,_⟩,hst,hm⟩=>by
   subst hres;refine⟨?_,?_⟩
   ·exact kbO
   ·have hf:=hst.fr;exact⟨hf.os,hf.tape,hf.output,hf.size,fun k hk=>hf.keep k hk fun⟨j,o,h1,hb⟩=>by
      unfold HG at h1;split at h1
      ·rename_i e;subst e;cases h1;simp[Zm,AObj.ver,cG]at hb
      ·simp at h1⟩
def putCells(cs:Array Value):Obj→Obj
 | .cells _ t fr=> .cells cs t fr
 | o=>o
noncomputable def LY(os:Os):World:=
 {World.holding prog os ⟨#[],#[],[]⟩with heap:=(World.holding prog os ⟨#[],#[],[]⟩).heap.modify 1 (putCells #[.int .u32 0,.int .u32 274646895,.int .u32 549293790,.int .u32 820201905,.int .u32 1098587580,.int .u32 1361435347,.int .u32 1640403810,.int .u32 1905808397,.int .u32 2197175160,.int .u32 2460548119,.int .u32 2722870694,.int .u32 2987750089,.int .u32 3280807620,.int .u32 3553878443,.int .u32 3811616794,.int .u32 4084100981])}
end Go.Proofs.YtkmkbndcekklmaaGreatDoor
namespace Go.Rt
open Go Go.Sx
mutual
def CR.good(fs:List Fml):CR→Prop
 | .nd k l _ t n=>if k=wOr then l≠[]∧Ru fs l else if k=wAnd then l≠[]∧Ru fs l else if k=wNot then l.length=1∧Ru fs l else if k=wIn then l.length=1∧Ru fs l
   else l=[]∧(k=wFam∧0≤famF fs t∨(k=wTs∧0≤n)∨k=Y1∨k=YG)
def Ru(fs:List Fml):List CR→Prop
 | []=>True
 | c::l=>c.good fs∧Ru fs l
end
mutual
def CR.small:CR→Prop
 | .nd _ l _ _ _=>l.length≤1048576∧CR.smalls l
def CR.smalls:List CR→Prop
 | []=>True
 | c::l=>c.small∧CR.smalls l
end
theorem R8(fs:List Fml):∀l:List CR,Ru fs l↔∀c∈l,c.good fs
 | []=>by simp[Ru]
 | c::l=>by rw[Ru,R8 fs l];simp
theorem RL{fs:List Fml}{l:List CR}{c:CR}(h:Ru fs l)(hc:c.good fs):Ru fs (l++[c]):=by
 rw[R8]at h ⊢;intro x hx;rcases List.mem_append.1 hx with h1 | h1
 ·exact h x h1
 ·rw[List.mem_singleton.1 h1];exact hc
section
variable {fs:List Fml}{t:List UInt8}
theorem testR_good{s:Ro}(h:(WH fs t s).2.bad<0):(WH fs t s).1.good fs:=by
 have hw:∀r:Ro,¬(Y2 t r).bad<0:=fun r h=>by
   unfold Y2 YL at h;split at h
   ·simp only at h;split at h<;>omega
   ·omega
 unfold WH at h ⊢;by_cases h1:0≤s.bad
 ·rw[if_pos h1]at h;simp only at h;omega
 rw[if_neg h1]at h ⊢;by_cases h2:s.w.kind≠110∨s.w.text∉[wFam,Y1,YG,wTs]
 ·rw[if_pos h2]at h;exact absurd h (hw _)
 rw[if_neg h2]at h ⊢;by_cases h3:0≤(Zl t s).bad
 ·rw[if_pos h3]at h;simp only at h;omega
 rw[if_neg h3]at h ⊢;by_cases h4:(Zl t s).w.kind≠103∨(Zl t s).w.text∉mayS s.w.text
 ·rw[if_pos h4]at h;exact absurd h (hw _)
 rw[if_neg h4]at h ⊢;by_cases h5:0≤(Zl t (Zl t s)).bad
 ·rw[if_pos h5]at h;simp only at h;omega
 rw[if_neg h5]at h ⊢;by_cases h6:(Zl t (Zl t s)).w.kind≠agK s.w.text∨(s.w.text=wFam∧famF fs (Zl t (Zl t s)).w.text<0)
 ·rw[if_pos h6]at h;exact absurd h (hw _)
 rw[if_neg h6];have h7:s.w.text∈[wFam,Y1,YG,wTs]:=Classical.byContradiction fun e=>h2 (.inr e);generalize s.w.text=k at*;have h9:¬(k=wFam∧famF fs (Zl t (Zl t s)).w.text<0):=fun e=>h6 (.inr e);simp only[List.mem_cons,or_false,List.not_mem_nil]at h7;rcases h7 with rfl | rfl | rfl | rfl
 ·exact⟨rfl,.inl ⟨rfl,Classical.byContradiction fun e=>h9 ⟨rfl,om⟩⟩⟩
 ·exact⟨rfl,.inr (.inr (.inl rfl))⟩
 ·exact⟨rfl,.inr (.inr (.inr rfl))⟩
 ·exact⟨rfl,.inr (.inl ⟨rfl,om⟩)⟩
theorem cr_good : ∀ f, (∀ s, (ZV fs t f s).2.bad < 0 → (ZV fs t f s).1.good fs) ∧
   (∀l s,Ru fs l→s.bad<0→(YN fs t f l s).2.bad<0→(YN fs t f l s).1≠[]∧Ru fs (YN fs t f l s).1)∧
   (∀s,s.bad<0→(Ym fs t f s).2.bad<0→(Ym fs t f s).1.good fs)∧
   (∀l s,Ru fs l→s.bad<0→(orsR fs t f l s).2.bad<0→(orsR fs t f l s).1≠[]∧Ru fs (orsR fs t f l s).1)∧
   (∀s,s.bad<0→(Yh fs t f s).2.bad<0→(Yh fs t f s).1.good fs):=by
 intro f;have hf0:∀(s:Ro) (a:Nat),¬(YL s a).bad<0:=fun s a h=>by
   unfold YL at h;split at h
   ·simp only at h;omega
   ·omega
 induction f with
 | zero=>
   refine⟨fun s h=> ?_,fun l s _ _ h=> ?_,fun s _ h=> ?_,fun l s _ _ h=> ?_,fun s _ h=> ?_⟩
   ·unfold ZV at h;exact absurd h (hf0 _ _)
   ·unfold YN at h;exact absurd h (hf0 _ _)
   ·unfold Ym at h;exact absurd h (hf0 _ _)
   ·unfold orsR at h;exact absurd h (hf0 _ _)
   ·unfold Yh at h;exact absurd h (hf0 _ _)
 | succ f ih=>
   obtain⟨iF,iA,iT,iO,iC⟩:=ih;have hF:∀s,(ZV fs t (f+1) s).2.bad<0→(ZV fs t (f+1) s).1.good fs:=fun s h=>by
     rw[ZV]at h ⊢;by_cases h1:isB 110 wNot s=true
     ·rw[if_pos h1]at h ⊢;by_cases h2:16<(Zl t s).o+1
      ·rw[if_pos h2]at h;simp only at h;omega
      ·rw[if_neg h2]at h ⊢;exact⟨rfl,iF _ h,trivial⟩
     ·rw[if_neg h1]at h ⊢;by_cases h3:isB 103 [40] s=true
      ·rw[if_pos h3]at h ⊢;by_cases h2:16<(Zl t s).o+1
       ·rw[if_pos h2]at h;simp only at h;omega
       ·rw[if_neg h2]at h ⊢;obtain⟨r,hr⟩:∃r:Ro,r={Zl t s with o:=(Zl t s).o+1}:=⟨_,rfl⟩;rw[←hr]at h ⊢;have hb:(Yh fs t f r).2.bad<0:=by
          rcases Int.lt_or_le (Yh fs t f r).2.bad 0 with h4 | h4
          ·exact h4
          ·have e1:isS t 103 [41] (Yh fs t f r).2=(Yh fs t f r).2:=by unfold isS;rw[VC h4];rfl
           simp only[e1]at h;rw[if_neg (fun e=>by have:=e.1;omega)]at h;omega
        have hb0:r.bad<0:=by
          rcases Int.lt_or_le r.bad 0 with h4 | h4
          ·exact h4
          ·rw[condR_bad f h4]at hb;omega
        exact⟨rfl,iC _ hb0 hb,trivial⟩
      ·rw[if_neg h3]at h ⊢;exact testR_good h
   have hA:∀l s,Ru fs l→s.bad<0→(YN fs t (f+1) l s).2.bad<0→(YN fs t (f+1) l s).1≠[]∧Ru fs (YN fs t (f+1) l s).1:=fun l s hl hs h=>by
     rw[YN,if_pos hs]at h ⊢;by_cases h1:isB 110 wAnd (ZV fs t f s).2=true
     ·rw[if_pos h1]at h ⊢;have hb:(ZV fs t f s).2.bad<0:=by
        rcases Int.lt_or_le (ZV fs t f s).2.bad 0 with h4 | h4
        ·exact h4
        ·rw[VC h4]at h1;cases h1
      rcases Int.lt_or_le (isS t 110 wAnd (ZV fs t f s).2).bad 0 with h4 | h4
      ·exact iA _ _ (RL hl (iF s hb)) h4 h
      ·rw[Ms _ _ h4]at h;simp only at h;omega
     ·rw[if_neg h1]at h ⊢;exact⟨osi,RL hl (iF s h)⟩
   have hO:∀l s,Ru fs l→s.bad<0→(orsR fs t (f+1) l s).2.bad<0→(orsR fs t (f+1) l s).1≠[]∧Ru fs (orsR fs t (f+1) l s).1:=fun l s hl hs h=>by
     rw[orsR,if_pos hs]at h ⊢;by_cases h1:isB 110 wOr (Ym fs t f s).2=true
     ·rw[if_pos h1]at h ⊢;have hb:(Ym fs t f s).2.bad<0:=by
        rcases Int.lt_or_le (Ym fs t f s).2.bad 0 with h4 | h4
        ·exact h4
        ·rw[VC h4]at h1;cases h1
      rcases Int.lt_or_le (isS t 110 wOr (Ym fs t f s).2).bad 0 with h4 | h4
      ·exact iO _ _ (RL hl (iT s hs hb)) h4 h
      ·rw[KG _ _ h4]at h;simp only at h;omega
     ·rw[if_neg h1]at h ⊢;exact⟨osi,RL hl (iT s hs h)⟩
   refine⟨hF,hA,fun s hs h=> ?_,hO,fun s hs h=> ?_⟩
   ·rw[Ym]at h ⊢;exact hA [] s trivial hs h
   ·rw[Yh]at h ⊢;exact hO [] s trivial hs h
theorem RF{l:List CR}{c:CR}(h:CR.smalls l)(hc:c.small):CR.smalls (l++[c]):=by
 induction l with
 | nil=>exact⟨hc,trivial⟩
 | cons a l ih=>exact⟨h.1,ih h.2⟩
theorem testR_small(s:Ro):(WH fs t s).1.small:=by
 unfold WH
 repeat' split
 all_goals exact⟨osi,trivial⟩
theorem cr_small : ∀ f, f ≤ 1000000 → (∀ s, (ZV fs t f s).1.small) ∧
   (∀l s,CR.smalls l→l.length+f≤1048576→(YN fs t f l s).1.length≤1048576∧CR.smalls (YN fs t f l s).1)∧
   (∀s,(Ym fs t f s).1.small)∧
   (∀l s,CR.smalls l→l.length+f≤1048576→(orsR fs t f l s).1.length≤1048576∧CR.smalls (orsR fs t f l s).1)∧
   (∀s,(Yh fs t f s).1.small):=by
 intro f
 induction f with
 | zero=>
   intro _;refine⟨fun s=> ?_,fun l s h h1=> ?_,fun s=> ?_,fun l s h h1=> ?_,fun s=> ?_⟩
   ·unfold ZV;exact⟨osi,trivial⟩
   ·unfold YN;exact⟨by simpa using h1,h⟩
   ·unfold Ym;exact⟨osi,trivial⟩
   ·unfold orsR;exact⟨by simpa using h1,h⟩
   ·unfold Yh;exact⟨osi,trivial⟩
 | succ f ih=>
   intro hf;obtain⟨iF,iA,iT,iO,iC⟩:=ih om;have hF:∀s,(ZV fs t (f+1) s).1.small:=fun s=>by
     rw[ZV];split
     ·split
      ·exact⟨osi,trivial⟩
      ·exact⟨osi,iF _,trivial⟩
     ·split
      ·split
       ·exact⟨osi,trivial⟩
       ·exact⟨osi,iC _,trivial⟩
      ·exact testR_small s
   have hA:∀l s,CR.smalls l→l.length+(f+1)≤1048576→(YN fs t (f+1) l s).1.length≤1048576∧CR.smalls (YN fs t (f+1) l s).1:=fun l s h h1=>by
     rw[YN];split
     ·split
      ·exact iA _ _ (RF h (iF _)) (by rw[qe];simp;omega)
      ·exact⟨by simp only[qe,qi,List.length_nil];omega,RF h (iF _)⟩
     ·exact⟨by simp only;omega,h⟩
   have hO:∀l s,CR.smalls l→l.length+(f+1)≤1048576→(orsR fs t (f+1) l s).1.length≤1048576∧CR.smalls (orsR fs t (f+1) l s).1:=fun l s h h1=>by
     rw[orsR];split
     ·split
      ·exact iO _ _ (RF h (iT _)) (by rw[qe];simp;omega)
      ·exact⟨by simp only[qe,qi,List.length_nil];omega,RF h (iT _)⟩
     ·exact⟨by simp only;omega,h⟩
   refine⟨hF,hA,fun s=> ?_,hO,fun s=> ?_⟩
   ·rw[Ym];exact hA [] s trivial oz
   ·rw[Yh];exact hO [] s trivial oz
theorem Q9(x:CelE):∀(l:List Tst) (a:Tst),(l.foldl .or a).holds x=(a.holds x||l.any fun b=>b.holds x)
 | [],a=>osi
 | b::l,a=>by rw[List.foldl_cons,Q9 x l,List.any_cons];simp only[Tst.holds];rw[Bool.or_assoc]
theorem QG(x:CelE):∀(l:List Tst) (a:Tst),(l.foldl .and a).holds x=(a.holds x&&l.all fun b=>b.holds x)
 | [],a=>osi
 | b::l,a=>by rw[List.foldl_cons,QG x l,List.all_cons];simp only[Tst.holds];rw[Bool.and_assoc]
theorem foldT_or{x:CelE}{l:List Tst}(h:l≠[]):(Xl .or l).holds x=l.any fun b=>b.holds x:=by
 cases l with
 | nil=>exact absurd rfl h
 | cons a l=>exact Q9 x l a
theorem foldT_and{x:CelE}{l:List Tst}(h:l≠[]):(Xl .and l).holds x=l.all fun b=>b.holds x:=by
 cases l with
 | nil=>exact absurd rfl h
 | cons a l=>exact QG x l a
end
end Go.Rt
set_option maxRecDepth 10000
namespace Go.Proofs.YtkmkbndcekklmaaGreatDoor
open Go Go.Sx Go.Rt Go.Proofs Tryz
theorem mod128(x:Nat):AV.int .u8 (IntKind.u8.wrap (IntKind.u64.wrap (128+(x:Int).tmod 128)))=Zd (UInt8.ofNat (x%128+128)):=by
 have h1:(x:Int).tmod 128=((x%128:Nat):Int):=by rw[Int.tmod_eq_emod_of_nonneg om];omega
 rw[h1,show(128:Int)+((x%128:Nat):Int)=((x%128+128:Nat):Int) by omega,Ya,Wm _ om,XJ,Mr]
theorem NJ70.eqs{P Q:Prop}(g:Imp P Q:=by(try simp only[go_sem,seval]);exact Imp.rf):Imp P Q:=g
open NJ70 NY in
theorem XG(v:Nat)(hv:v<18446744073709551616)(H:Heap)(n:Nat):Ret prog 125 [.int .u64 v] H n (.osl n (Zi v).length 0 (Zi v).length) (H.put n (some (.arr (Zi v).length 1 ((Zi v).map Zd)))) (n+1):=by
 have hlen:=Zp hv;refine fw func125 ntmps125 results125 ?_;refine kcu ?_;refine rg zs [0,3] ?_;refine bk fun K1 hK1=> ?_;refine ZN 3 1 rfl ?_;refine Yl [0,3] ?_;simp only[go_sem,seval];refine Zk (fun T' H' n'=>∃(b:List UInt8) (x:Nat),b++Zi x=Zi v∧x<18446744073709551616∧T'=tl [(0,.int .u64 x),(3,.osl n b.length 0 b.length)]∧H'=H.put n (some (.arr b.length 1 (b.map Zd)))∧n'=n+1) (fun T' _ _=>iv (T' 0)) ?_ ?_
 ·exact⟨[],v,rfl,hv,rfl,rfl,rfl⟩
 rintro T1 H1 n1 ⟨b,x,hbx,hx,rfl,rfl,rfl⟩;refine Za fun K2 hK2=> ?_;refine rg zs [0,3,5] ?_;refine Zb ?_ ?_<;>intro hb
 ·have hge:128≤x:=ott;rw[QP hge]at hbx;have hbl:b.length≤10:=by have:=congrArg List.length hbx;simp at this;omega
  have hdv:(x:Int).tdiv 128=((x/128:Nat):Int):=by rw[Int.tdiv_eq_ediv_of_nonneg om];omega
  have hwr:IntKind.u64.wrap ((x/128:Nat):Int)=((x/128:Nat):Int):=by rw[Ya,Wm _ om]
  refine kaQ ?_;refine kbM ?_;refine Zg zs [0,3] fun K V=> ?_
  try simp only[go_sem,seval,mod128,qb,List.take_length,Qz,List.take_of_length_le]
  repeat (first | (refine And.intro ?_ ?_;· first | exact⟨rfl,by simp[AV.sz,AV.memOK]⟩ | exact⟨om,.inr trivial,om,om⟩) | refine peel ?_)
  refine kas ?_;refine ZP zs [0,3] fun K V=> ?_
  try simp only[go_sem,seval,hdv,hwr]
  refine kad ?_;exact ka7
 exact kaq
theorem NJ71.eqs{P Q:Prop}(g:Imp P Q:=by(try simp only[go_sem,seval,qb,Ya,hu]);exact Imp.rf):Imp P Q:=g
theorem NJ71.sd{P:Prop}(g:P:=by first | exact⟨om,.inr trivial,om,om⟩ | fail):P:=g
open NJ71 NZ in
theorem Ww(b:List UInt8)(hb:b.length≤1099511627776)(H:Heap)(n:Nat):Ret prog 126 [bys b] H n (.osl n ((Zi b.length).length+1) 0 (Zo b).length) (H.put n (some (.arr ((Zi b.length).length+1) 1 ((Zo b).map Zd)))) (n+1):=by
 have hlen:=Zp (v:=b.length) om;have hu:u64 (b.length:Int)=b.length:=Wm _ om;refine fw func126 ntmps126 results126 ?_;refine kcu ?_;refine rk zs [2] fun K V=> ?_;refine ck func125 ((XG b.length om _ _)) ?_;refine kas ?_;exact kbR
theorem NHj0.eqs{P Q:Prop}(g:Imp P Q:=by(try simp only[go_sem,seval,hsz,Ze,Zx,bys,qb,f1,f2,hQ,hB,g1,g2,hnth,hx,Yr,Ya,qd]);exact Imp.rf):Imp P Q:=g
theorem NHj0.sd{P:Prop}(g:P:=by first | exact⟨Nat.le_refl _,Nat.le_refl _,.inr trivial,om,om⟩ | exact⟨om,om⟩ | fail):P:=g
set_option maxHeartbeats 3200000 in
open NHj0 NZ in
theorem c_ref13_form(q:QryE)(h1:q.frm.length≤1048576)(h2:q.to.length≤1048576)(h3:q.fams.length≤1048576)(h4:q.pre.length≤1048576)(h5:q.whr.length≤1048576)(H:Heap)(n:Nat):Ret prog 128 [Ze q] H n (bys (YU q)) H n:=by
 have hsz:(Ze q).sz=10:=ZT q;have hQ:=hsz;have hB:=hsz;have g1:=hsz;have g2:=hsz;have hnth:=hsz;have hx:=hsz;have f1:(n=n+1)=False:=osi;have f2:(n+1=n)=False:=osi;refine Ret.fin ?_;refine fw func128 ntmps128 results128 ?_;refine rg zs [1] ?_;refine rg zo [1,3] ?_;refine ZL [1,3] (fun T' H' n'=>T'=tl [(1,.loc n 0 0 0 []),(3,.osl (n+1) 0 0 1)]∧WF q H n 0 1 [if q.rev then 1 else 0] H' n') ?_ ?_
 ·refine rg zs [1,3,7] ?_;refine Zb ?_ ?_<;>intro hb
  ·refine rg1 zs [1,3] ?_;exact kaC
  refine ak ?_;exact kaC
 rintro T1 H1 m ⟨rfl,hS⟩;obtain⟨b0,hb0⟩:∃b,b=[if q.rev then(1:UInt8)else 0]:=⟨_,rfl⟩;rw[←hb0]at hS;have hb1:b0.length=1:=by rw[hb0];rfl
 rw[show AV.osl (n+1) 0 0 1=AV.osl (n+1) 0 0 b0.length by rw[hb1]];have hQ:=hS.q;have hB:=hS.b;have hl:=hS.lt;have hle:=hS.le;have g1:(n+1=m)=False:=oz;have g2:(n=m)=False:=oz;have hy:=Zp (v:=q.frm.length) om;have hz:(Zo q.frm).length=(Zi q.frm.length).length+q.frm.length:=by simp[Zo]
 refine rk zs [1,3] fun K V=> ?_;refine ck func126 ((Ww q.frm om _ _)) ?_;refine kas ?_;refine ZG (fun H' n'=>WF q H n (0+1) 1048600 (b0++Zo q.frm) H' n') (hS.app (Zo q.frm) rfl om om) fun H1 m hS=> ?_;refine kbS ?_;obtain⟨c1,hc1⟩:∃b,b=b0++Zo q.frm:=⟨_,rfl⟩;rw[←hc1]at hS ⊢;have hQ:=hS.q;have hB:=hS.b;have hl:=hS.lt;have hle:=hS.le;have g1:(n+1=m)=False:=oz;have g2:(n=m)=False:=oz;have hy:=Zp (v:=q.to.length) om;have hz:(Zo q.to).length=(Zi q.to.length).length+q.to.length:=by simp[Zo]
 refine rk zs [1,3] fun K V=> ?_;refine ck func126 ((Ww q.to om _ _)) ?_;refine kas ?_;refine ZG (fun H' n'=>WF q H n (0+1+1) 2097200 (c1++Zo q.to) H' n') (hS.app (Zo q.to) rfl om om) fun H1 m hS=> ?_;refine kbS ?_;obtain⟨c2,hc2⟩:∃b,b=c1++Zo q.to:=⟨_,rfl⟩;rw[←hc2]at hS ⊢;have hQ:=hS.q;have hB:=hS.b;have hl:=hS.lt;have hle:=hS.le;have g1:(n+1=m)=False:=oz;have g2:(n=m)=False:=oz;have hy:=Zp (Yc q.fams.length);refine rc zs [1,3] func125 ((XG (u64 q.fams.length) (Yc _) _ _)) ?_;refine Za fun K1 hK1=> ?_;refine ZG (fun H' n'=>WF q H n (0+1+1+1) 3000000 (c2++Zi (u64 q.fams.length)) H' n') (hS.app (Zi (u64 q.fams.length)) rfl om om) fun H1 m hS=> ?_;refine kbS ?_;obtain⟨c3,hc3⟩:∃b,b=c2++Zi (u64 q.fams.length):=⟨_,rfl⟩;rw[←hc3]at hS ⊢;have hQ:=hS.q;have hB:=hS.b;have hl:=hS.lt;have hle:=hS.le;have g1:(n+1=m)=False:=oz;have g2:(n=m)=False:=oz;refine rg zs [1,3,4] ?_;refine kbM ?_;refine Zk (fun T' H' n'=>∃i:Nat,i≤q.fams.length∧T'=tl [(1,.loc n 0 0 0 []),(3,.osl (n+1) (3+i) 0 (c3++(q.fams.take i).flatMap (fun f=>Zi (u64 f))).length),(4,.int .i64 i)]∧WF q H n (3+i) (3000000+10*i) (c3++(q.fams.take i).flatMap (fun f=>Zi (u64 f))) H' n') (fun T' _ _=>q.fams.length-iv (T' 4)) ?_ ?_
 ·exact⟨0,Nat.zero_le _,osi,by simpa using hS⟩
 rintro T1 H1 n1 ⟨i,hi,rfl,hS⟩;obtain⟨m,hm⟩:∃m,m=n1:=⟨_,rfl⟩;subst hm;have hQ:=hS.q;refine Za fun K2 hK2=> ?_;refine rg zs [1,3,4,31] ?_;refine Zb ?_ ?_<;>intro hb
 ·have hlt:i<q.fams.length:=ott;have hx:IntKind.i64.wrap ((i:Int)+1)=((i+1:Nat):Int):=w1 om;have hnth:nth (q.fams.map fun n=>AV.int .i64 n) i=AV.int .i64 (q.fams.getD i 0):=Zr (fun n=>AV.int .i64 n) q.fams _ hlt;have hy:=Zp (Yc (q.fams.getD i 0));have hts:(q.fams.take (i+1)).flatMap (fun f=>Zi (u64 f))=(q.fams.take i).flatMap (fun f=>Zi (u64 f))++Zi (u64 (q.fams.getD i 0)):=by rw[List.take_succ_eq_append_getElem hlt,List.flatMap_append];simp[List.getD,hlt]
  obtain⟨d,hd⟩:∃d,d=c3++(q.fams.take i).flatMap (fun f=>Zi (u64 f)):=⟨_,rfl⟩;rw[←hd]at hS ⊢;have hQ:=hS.q;have hB:=hS.b;have hl:=hS.lt;have hle:=hS.le;have g1:(n+1=m)=False:=oz;have g2:(n=m)=False:=oz;refine kaQ ?_;refine bk fun K3 hK3=> ?_;refine rc1 zs [1,3,4] func125 ((XG (u64 (q.fams.getD i 0)) (Yc _) _ _)) ?_;apply hK3;refine rg1 zs [1,3,4] ?_;exact kbf
 have hge:i=q.fams.length:=otf;have htk:q.fams.take i=q.fams:=List.take_of_length_le om;subst hge;obtain⟨c4,hc4⟩:∃d,d=c3++(q.fams.take q.fams.length).flatMap (fun f=>Zi (u64 f)):=⟨_,rfl⟩;rw[←hc4]at hS ⊢;have hQ:=hS.q;have hB:=hS.b;have hl:=hS.lt;have hle:=hS.le;have g1:(n+1=m)=False:=oz;have g2:(n=m)=False:=oz;have hy:=Zp (v:=q.pre.length) om;have hz:(Zo q.pre).length=(Zi q.pre.length).length+q.pre.length:=by simp[Zo]
 refine ax ?_;apply hK1;refine rk zs [1,3] fun K V=> ?_;refine ck func126 ((Ww q.pre om _ _)) ?_;refine kas ?_;refine ZG (fun H' n'=>WF q H n (3+q.fams.length+1) 16000000 (c4++Zo q.pre) H' n') (hS.app (Zo q.pre) rfl om om) fun H1 m hS=> ?_;refine kbS ?_;obtain⟨c5,hc5⟩:∃b,b=c4++Zo q.pre:=⟨_,rfl⟩;rw[←hc5]at hS ⊢;have hQ:=hS.q;have hB:=hS.b;have hl:=hS.lt;have hle:=hS.le;have g1:(n+1=m)=False:=oz;have g2:(n=m)=False:=oz;have hy:=Zp (Yc q.time);refine rc zs [1,3] func125 ((XG (u64 q.time) (Yc _) _ _)) ?_;refine ZG (fun H' n'=>WF q H n (3+q.fams.length+1+1) 16000010 (c5++Zi (u64 q.time)) H' n') (hS.app (Zi (u64 q.time)) rfl om om) fun H1 m hS=> ?_;refine kbS ?_;obtain⟨c6,hc6⟩:∃b,b=c5++Zi (u64 q.time):=⟨_,rfl⟩;rw[←hc6]at hS ⊢;have hQ:=hS.q;have hB:=hS.b;have hl:=hS.lt;have hle:=hS.le;have g1:(n+1=m)=False:=oz;have g2:(n=m)=False:=oz;have hy:=Zp (Yc q.n);refine rc zs [1,3] func125 ((XG (u64 q.n) (Yc _) _ _)) ?_;refine ZG (fun H' n'=>WF q H n (3+q.fams.length+1+1+1) 16000020 (c6++Zi (u64 q.n)) H' n') (hS.app (Zi (u64 q.n)) rfl om om) fun H1 m hS=> ?_;refine kbS ?_;obtain⟨c7,hc7⟩:∃b,b=c6++Zi (u64 q.n):=⟨_,rfl⟩;rw[←hc7]at hS ⊢;have hQ:=hS.q;have hB:=hS.b;have hl:=hS.lt;have hle:=hS.le;have g1:(n+1=m)=False:=oz;have g2:(n=m)=False:=oz;have hy:=Zp (v:=q.whr.length) om;have hz:(Zo q.whr).length=(Zi q.whr.length).length+q.whr.length:=by simp[Zo]
 refine rk zs [2] fun K V=> ?_;refine ck func126 ((Ww q.whr om _ _)) ?_;refine kas ?_;exact kaG
theorem eight_head(v:Nat):(Qo v 8).drop 4=YI v:=by
 show[Yb ((v/256^3:Nat):Int),Yb ((v/256^2:Nat):Int),Yb ((v/256^1:Nat):Int),Yb ((v/256^0:Nat):Int)]=_;unfold YI;rw[show((v/256^3:Nat):Int)=(v:Int)/16777216 by omega,show((v/256^2:Nat):Int)=(v:Int)/65536 by omega,show((v/256^1:Nat):Int)=(v:Int)/256 by omega,show((v/256^0:Nat):Int)=(v:Int) by omega]
theorem NHk0.eqs{P Q:Prop}(g:Imp P Q:=by(try simp only[go_sem,seval,qb,Ya,hu,e1,e4,YP,Option.getD_some,Option.getD_none]);exact Imp.rf):Imp P Q:=g
open NHk0 NY in
theorem c_ref1_Frame(b:List UInt8)(hb:b.length≤1048576)(H:Heap)(n:Nat):Ret prog 129 [bys b] H n (.tup [bys (Yd b),.int .i64 0]) H n:=by
 have hu:u64 (b.length:Int)=b.length:=Wm _ om;have e1:List.drop 4 (List.take 8 ((Qo b.length 8).map Zd))=(YI b.length).map Zd:=by rw[List.take_of_length_le (by simp[YP]),←List.map_drop,eight_head]
 obtain⟨hd,hhd⟩:∃x,x=YI b.length:=⟨_,rfl⟩;have hdl:hd.length=4:=by rw[hhd];rfl
 have hfb:Yd b=hd++lowB (sumF [hd])++b++lowB (sumF [b]):=by rw[hhd];rfl
 rw[←hhd]at e1;have e2:(hd.take 4).drop 0=hd:=by rw[List.drop_zero,List.take_of_length_le om]
 have hll:∀v,(lowB v).length=4:=fun v=>rfl;have e4:List.take 4 (hd.map Zd)=hd.map Zd:=List.take_of_length_le oz;have e8:List.take 8 ((hd++lowB (sumF [hd])).map Zd)=(hd++lowB (sumF [hd])).map Zd:=List.take_of_length_le (by simp[hll];omega);have hzz:(Option.map (fun x=>x) (none:Option Nat))=none:=rfl;refine Ret.fin ?_;refine fw func129 ntmps129 results129 ?_;refine kcu ?_;refine Za fun K1 hK1=> ?_;refine rg zs [0,8] ?_;refine Zb ?_ ?_<;>intro hb
 ·exact absurd (of_decide_eq_true hb) om
 refine kay ?_;refine rk zs [0,4] fun K V=> ?_;refine ck func146 ((c_ref1_eight b.length om _ _)) ?_;refine kas ?_;refine rk zs [0,5] fun K V=> ?_;refine ck func58 ((e2▸Vn hd om 0 4 om om _ _)) ?_;refine ck func133 ((Vk hd om _ _)) ?_;refine kas ?_;refine ZG (fun H' n'=>H' n=some (.arr 2 1 ((hd++lowB (sumF [hd])).map Zd))∧(∀k,k<n→H' k=H k)∧n'=n+1) ⟨by simp only[Rm,qj];rw[List.take_of_length_le osi],fun k hk=>Rk _ _ om,rfl⟩ fun H1 n1 ⟨r1,hl1,hn1⟩=> ?_;subst hn1;refine kbS ?_;have hl8:(hd++lowB (sumF [hd])).length=8:=by rw[qe,hdl];rfl
 have e9:List.take (hd++lowB (sumF [hd])).length ((hd++lowB (sumF [hd])).map Zd)=(hd++lowB (sumF [hd])).map Zd:=List.take_of_length_le osi;refine Zg zs [0,5] fun K V=> ?_
 try simp only[go_sem,seval,qb,Ya,hu,e1,e4,YP,Option.getD_some,Option.getD_none,r1,e9]
 repeat (first | (refine And.intro ?_ ?_;· first | exact⟨osi,.inr trivial,om,om⟩) | refine peel ?_)
 refine kas ?_;refine ZG (fun H' n'=>H' n=some (.arr 3 1 ((hd++lowB (sumF [hd])++b).map Zd))∧(∀k,k<n→H' k=H k)∧n'=n+1) ⟨by simp only[Rm,qj],fun k hk=>(Rk _ _ om).trans (hl1 k hk),rfl⟩ fun H2 n2 ⟨r2,hl2,hn2⟩=> ?_;subst hn2;refine kbS ?_;have e10:List.take (hd++lowB (sumF [hd])++b).length ((hd++lowB (sumF [hd])++b).map Zd)=(hd++lowB (sumF [hd])++b).map Zd:=List.take_of_length_le osi;have hl9:(hd++lowB (sumF [hd])++b).length=8+b.length:=by rw[qe,hl8]
 refine Zg zs [2,3] fun K V=> ?_
 try simp only[go_sem,seval,qb,Ya,hu,e1,e4,YP,Option.getD_some,Option.getD_none,r2,e10]
 repeat refine peel ?_
 refine Zu func133 rfl rfl rfl ((Vk b om _ _)) ?_
 try simp only[go_sem,seval,qb,Ya,hu,e1,e4,YP,Option.getD_some,Option.getD_none,r2,e10]
 repeat (first | (refine And.intro ?_ ?_;· first | exact⟨osi,.inr trivial,by rw[hl9,hll];omega,by rw[hl9,hll];omega⟩) | refine peel ?_)
 refine kas ?_;refine ar ?_;refine⟨_,rfl,fun k hk=>by rw[if_neg om];exact hl2 k hk,?_⟩;rw[hfb];exact .tup (.cons (.osl (Rm _ _ _) (Nat.le_refl _) oz (by rw[List.drop_zero,List.take_of_length_le oz,←qj];exact XM _ (Z4 _ _))) (.cons (.kl trivial) .nil))
theorem or_add{x y k:Nat}(h:y<2^k):x*2^k ||| y=x*2^k+y:=by
 rw[←Nat.shiftLeft_eq,←Nat.shiftLeft_add_eq_or_of_lt h]
theorem hd4_num{b:List UInt8}(h:4≤b.length):hd4 b=numB 0 ((b.drop 0).take 4):=by
 obtain⟨x,y,z,w,l,rfl⟩:∃x y z w l,b=x::y::z::w::l:=by
   match b,h with
   | x::y::z::w::l,_=>exact⟨x,y,z,w,l,rfl⟩
 have hx:=x.toNat_lt;have hy:=y.toNat_lt;have hz:=z.toNat_lt;have hw:=w.toNat_lt
 show((x.toNat*2^24 ||| y.toNat*2^16) ||| z.toNat*2^8) ||| w.toNat=256*(256*(256*(256*0+x.toNat)+y.toNat)+z.toNat)+w.toNat
 rw[Nat.or_assoc,or_add (x:=z.toNat) (y:=w.toNat) (k:=8) om,Nat.or_assoc,or_add (x:=y.toNat) (y:=z.toNat*2^8+w.toNat) (k:=16) om,or_add (x:=x.toNat) (k:=24) om];omega
theorem NHk1.eqs{P Q:Prop}(g:Imp P Q:=by(try simp only[go_sem,seval,qb,k4,k8,k12,m4,m8,m0,m12]);exact Imp.rf):Imp P Q:=g
set_option maxHeartbeats 1600000 in
open NHk1 NY in
theorem Mi(b:List UInt8)(hb9:b.length≤1099511627776)(H:Heap)(n:Nat):Ret prog 97 [bys b,.int .i64 0] H n (.tup [bys (rfQ b).1,.int .i64 (rfQ b).2.1,.int .i64 (rfQ b).2.2]) H n:=by
 obtain⟨N,hNd⟩:∃N,N=numB 0 ((b.drop 0).take 4):=⟨_,rfl⟩;have hrf:rfQ b=rfN b N:=by
   unfold rfQ;by_cases h:4≤b.length
   ·rw[hd4_num h,hNd]
   ·unfold rfN;rw[if_pos om,if_pos om]
 rw[hrf];clear hrf;have hNl:N<4294967296:=by
   have h1:=N8 ((b.drop 0).take 4) 0;have h2:256^((b.drop 0).take 4).length≤256^4:=Nat.pow_le_pow_right om (by rw[qk];omega);rw[hNd];unfold numB;omega
 have k4:IntKind.i64.wrap 4=4:=odc;have k8:IntKind.i64.wrap 8=8:=odc;have k12:IntKind.i64.wrap 12=12:=odc;have m4:(4:Int).toNat=4:=rfl;have m8:(8:Int).toNat=8:=rfl;have m0:(0:Int).toNat=0:=rfl;have m12:(12:Int).toNat=12:=rfl;refine Ret.fin ?_;refine fw func97 ntmps97 results97 ?_;refine kb1 ?_;refine Za fun K1 hK1=> ?_;refine rc zs [0,1,11] func132 ((V6 b 0 _ _)) ?_;refine Zb ?_ ?_<;>intro hb
 ·exact kcQ
 refine kay ?_;refine Za fun K2 hK2=> ?_;refine rg zs [0,1,16] ?_;refine Zb ?_ ?_<;>intro hb
 ·have h8:b.length<8:=by have:=of_decide_eq_true hb;rw[w64 om om]at this;omega
  have hw:rfN b N=([],0,10):=by unfold rfN;rw[if_pos h8]
  exact kaf
 have h8:8≤b.length:=by have:=of_decide_eq_false hb;rw[w64 om om]at this;omega
 have e2:List.take 4 (b.map Zd)=(b.take 4).map Zd:=by rw[List.map_take]
 have e3:List.drop 4 (List.take 8 (b.map Zd))=((b.drop 4).take 4).map Zd:=by rw[List.drop_take,←List.map_drop,←List.map_take]
 refine kaQ ?_;refine Za fun K3 hK3=> ?_;refine Y0 rfl zs [0,1,30] [.m,.m,.m,.q,.q,.c,.m,.m,.q,.m,.q,.q,.c,.q] [0,1,2,3,4,5,6,7,8,9,10,11,12,13] [0,1,2,3,4,5,6,7,8,9,10,11,12,13] (by kernel_rfl) (fun _ _ _ _ _ h=>h) fun K V=> ?_;refine kbt ?_
 repeat (first | (refine And.intro ?_ ?_;· first | exact⟨om,fun m h=>h.elim⟩) | refine peel ?_)
 refine ZQ func133 rfl rfl rfl (fun _ n=>(Vk (b.take 4) (by rw[qk];omega) _ _)) ?_;refine kbt ?_
 repeat (first | (refine And.intro ?_ ?_;· first | exact⟨om,fun m h=>h.elim⟩) | refine peel ?_)
 refine ZQ func46 rfl rfl rfl (fun _ n=>(Xm (lowB (sumF [b.take 4])) ((b.drop 4).take 4) _ _)) ?_;refine kbt ?_;refine kad ?_;refine Zb ?_ ?_<;>intro hb
 ·have hs1:(lowB (sumF [b.take 4])==(b.drop 4).take 4)=false:=osb;have hw:rfN b N=([],0,12):=by unfold rfN;rw[if_neg om,if_pos (by rw[BEq.comm];exact hs1)]
  exact kaf
 have hs1:(lowB (sumF [b.take 4])==(b.drop 4).take 4)=true:=osb;have hs2:¬((b.drop 4).take 4==lowB (sumF [b.take 4]))=false:=by rw[BEq.comm,hs1];simp
 have eN:IntKind.i64.wrap (N:Int)=(N:Int):=w64 om om;refine kba ?_;refine Zg zs [0,1,7] fun K V=> ?_
 try simp only[go_sem,seval,qb,k4,k8,k12,m4,m8,m0,m12,eN]
 repeat refine peel ?_
 refine Zu func134 rfl rfl rfl ((hNd▸c_ref1_number b hb9 0 4 om om _ _)) ?_
 try simp only[go_sem,seval,qb,k4,k8,k12,m4,m8,m0,m12,eN]
 refine kad ?_;refine Za fun K4 hK4=> ?_;refine rg zs [0,1,7,36] ?_;refine Zb ?_ ?_<;>intro hb
 ·have hw:rfN b N=([],0,13):=by unfold rfN;rw[if_neg om,if_neg hs2,if_pos ott]
  exact kaf
 have hN2:¬1048576<N:=otf;have j0:IntKind.i64.wrap ((b.length:Int)-0)=(b.length:Int):=by rw[w64 om om];omega
 have j1:IntKind.i64.wrap ((b.length:Int)-8)=((b.length-8:Nat):Int):=by rw[w64 om om];omega
 have j2:IntKind.i64.wrap ((N:Int)+4)=((N+4:Nat):Int):=by rw[w64 om om];omega
 have j3:IntKind.i64.wrap (8+(N:Int))=((8+N:Nat):Int):=by rw[w64 om om];omega
 have j4:IntKind.i64.wrap (12+(N:Int))=((8+N+4:Nat):Int):=by rw[w64 om om];omega
 refine kb3 ?_;refine Za fun K5 hK5=> ?_;refine Zg zs [0,1,7,44] fun K V=> ?_
 try simp only[go_sem,seval,qb,k4,k8,k12,m4,m8,m0,m12,j0,j1,j2]
 refine kad ?_;refine Zb ?_ ?_<;>intro hb
 ·have hw:rfN b N=([],0,10):=by unfold rfN;rw[if_neg om,if_neg hs2,if_neg hN2,if_pos ott]
  exact kaf
 have hL:¬b.length-8<N+4:=otf;have e5:(b.take (8+N)).drop 8=(b.drop 8).take N:=by rw[List.drop_take];congr 1;omega
 have e6:List.drop (8+N) (List.take (8+N+4) (b.map Zd))=((b.drop (8+N)).take 4).map Zd:=by rw[List.drop_take,←List.map_drop,←List.map_take];congr 2;omega
 refine ak ?_;apply hK5;refine Zg zs [0,1,7,8] fun K V=> ?_
 try simp only[go_sem,seval,qb,k4,k8,k12,m4,m8,m0,m12,j3]
 repeat refine peel ?_
 refine Zu func58 rfl rfl rfl ((e5▸Uq b hb9 8 (8+N) om om _ _)) ?_
 try simp only[go_sem,seval,qb,k4,k8,k12,m4,m8,m0,m12,j3]
 refine kad ?_;refine Za fun K6 hK6=> ?_;refine Y0 rfl zs [1,7,8,66] [.m,.c,.m,.m,.q,.m,.q,.m,.q,.m,.q,.q,.c,.q] [0,1,2,3,4,5,6,7,8,9,10,11,12,13] [0,1,2,3,4,5,6,7,8,9,10,11,12,13] (by kernel_rfl) (fun _ _ _ _ _ h=>h) fun K V=> ?_;refine kbJ ?_
 repeat refine peel ?_
 refine ZQ func133 rfl rfl rfl (fun _ n=>(Vk ((b.drop 8).take N) (by rw[qk];omega) _ _)) ?_;refine kbJ ?_
 repeat (first | (refine And.intro ?_ ?_;· first | exact⟨om,om,om,fun m h=>h.elim⟩) | refine peel ?_)
 refine ZQ func46 rfl rfl rfl (fun _ n=>(Xm (lowB (sumF [(b.drop 8).take N])) ((b.drop (8+N)).take 4) _ _)) ?_;refine kbJ ?_;refine kad ?_;refine Zb ?_ ?_<;>intro hb
 ·have hs3:(lowB (sumF [(b.drop 8).take N])==(b.drop (8+N)).take 4)=false:=osb;have hw:rfN b N=([],0,12):=by unfold rfN;rw[if_neg om,if_neg hs2,if_neg hN2,if_neg hL,if_pos (by rw[BEq.comm];exact hs3)]
  exact kaf
 have hs3:(lowB (sumF [(b.drop 8).take N])==(b.drop (8+N)).take 4)=true:=osb;have hw:rfN b N=((b.drop 8).take N,((8+N+4:Nat):Int),0):=by unfold rfN;rw[if_neg om,if_neg hs2,if_neg hN2,if_neg hL,if_neg (by rw[BEq.comm,hs3];simp)]
 refine ak ?_;apply hK6;refine Zg zs [4,5,6] fun K V=> ?_
 try simp only[go_sem,seval,qb,k4,k8,k12,m4,m8,m0,m12,j4]
 refine kad ?_;refine ar ?_;rw[hw];exact⟨_,rfl,.kl ⟨Xg _ _,trivial,trivial,trivial⟩⟩
theorem NHl0.eqs{P Q:Prop}(g:Imp P Q:=by(try simp only[go_sem,seval,hsz,hag,hmo,f1,f2,f3,f4,g1,r1,r2,Yr,Ya,qb]);exact Imp.rf):Imp P Q:=g
theorem NHl0.sd{P:Prop}(g:P:=by first | exact⟨Nat.le_refl _,Nat.le_refl _,.inr trivial,om,om⟩ | exact⟨rfl,by(simp[AV.sz,AV.memOK];first | done | fail)⟩ | fail):P:=g
open NHl0 NZ in
theorem JZ(q:QryE)(hq:q.fine)(time:Int)(row:List UInt8)(hr:row.length≤256)(H:Heap)(n:Nat):Ret prog 91 [Ze q,.int .i64 time,bys row] H n (bys (tokB q time row)) H n:=by
 have hsz:(Ze q).sz=10:=ZT q;have hag:(Ze q).isAgg=true:=rfl;have hmo:(Ze q).memOK=true:=rfl;have r1:=hsz;have r2:=hsz;have g1:=hsz;have hy:=Zp (v:=row.length) om;have hz:(Zo row).length=(Zi row.length).length+row.length:=by simp[Zo]
 have hy2:=Zp (Yc time);have hy3:=Zp (Yc (sumF [YU q]));have f1:(n=n+1)=False:=osi;have f2:(n+1=n)=False:=osi;have f3:(n+1=n+2)=False:=osi;have f4:(n=n+2)=False:=osi;refine Ret.fin ?_;refine fw func91 ntmps91 results91 ?_;refine rg zs [1,2,3] ?_;refine rc zs [2,3,7] func125 ((XG (u64 time) (Yc _) _ _)) ?_;refine rk zs [3,7] fun K V=> ?_;refine ck func126 ((Ww row om _ _)) ?_;refine kas ?_;refine ZG (fun H' n'=>H' n=some (.arr 0 10 [Ze q])∧H' (n+1)=some (.arr ((Zi (u64 time)).length+1) 1 ((Zi (u64 time)++Zo row).map Zd))∧(∀k,k<n→H' k=H k)∧n+3≤n') ⟨by(try simp only[Rl]);simp,by rw[Rm,qj],fun k hk=>oh,om⟩ fun H1 m ⟨r1,r2,hl1,hm⟩=> ?_;refine kbS ?_;have g1:(n+1=m)=False:=oz;have hbl:(Zi (u64 time)++Zo row).length≤300:=by rw[qe];omega
 have e9:List.take (Zi (u64 time)++Zo row).length (List.map Zd (Zi (u64 time)++Zo row))=List.map Zd (Zi (u64 time)++Zo row):=Yr _;refine rk zs [7,8] fun K V=> ?_;refine ck func128 ((c_ref13_form q hq.frm hq.to hq.fams hq.pre hq.whr _ _)) ?_;refine ck func127 ((PU [YU q] osi (fun x hx=>by rw[List.mem_singleton.1 hx];have:=formB_len hq;omega) _ _)) ?_;refine kas ?_;refine Zg zs [7] fun K V=> ?_
 try simp only[go_sem,seval,hsz,hag,hmo,f1,f2,f3,f4,g1,r1,r2,Yr,Ya,qb,e9]
 repeat refine peel ?_
 refine Zu func125 rfl rfl rfl ((XG (u64 (sumF [YU q])) (Yc _) _ _)) ?_
 try simp only[go_sem,seval,hsz,hag,hmo,f1,f2,f3,f4,g1,r1,r2,Yr,Ya,qb,e9]
 repeat (first | (refine And.intro ?_ ?_;· first | exact⟨Nat.le_refl _,Nat.le_refl _,.inr trivial,om,om⟩) | refine peel ?_)
 refine kas ?_;refine rk zs [9] fun K V=> ?_;rw[←qe,←qj];refine Zu func129 rfl rfl rfl (Ret.frzK (args:=[.osl (n+1) ((Zi (u64 time)).length+2) 0 (Zi (u64 time)++Zo row++Zi (u64 (sumF [YU q]))).length]) (args':=[bys (Zi (u64 time)++Zo row++Zi (u64 (sumF [YU q])))]) (n+1) (Rm _ _ _) ⟨fz_bys _,trivial⟩ (c_ref1_Frame (Zi (u64 time)++Zo row++Zi (u64 (sumF [YU q]))) (by rw[qe];omega) _ _)) ?_;refine nz ?_;refine kas ?_;refine rg zs [6] ?_;refine ar ?_;exact⟨_,rfl,fun k hk=>ohx (hl1 k hk),.kl (Z4 (tokB q time row) _)⟩
theorem head_num{n:Nat}(h:n<4294967296):numB 0 (YI n)=n:=by
 have hb:∀x:Nat,(Yb (x:Int)).toNat=x%256:=fun x=>by rw[Mr];simp
 show 256*(256*(256*(256*0+(Yb ((n:Int)/16777216)).toNat)+(Yb ((n:Int)/65536)).toNat)+(Yb ((n:Int)/256)).toNat)+(Yb (n:Int)).toNat=n;rw[show(n:Int)/16777216=((n/16777216:Nat):Int) by omega,show(n:Int)/65536=((n/65536:Nat):Int) by omega,show(n:Int)/256=((n/256:Nat):Int) by omega,hb,hb,hb,hb];omega
theorem frame_end{b:List UInt8}(hb:b.length≤1048576)(h:(rfQ (Yd b)).2.2=0):(rfQ (Yd b)).2.1=((Yd b).length:Int):=by
 have hl:(Yd b).length=12+b.length:=by unfold Yd;simp only[qe];show 4+4+b.length+4=_;omega
 have hN:hd4 (Yd b)=b.length:=by
   rw[hd4_num om,List.drop_zero];have:(Yd b).take 4=YI b.length:=by unfold Yd;rw[qf,qf];rfl
   rw[this,head_num om]
 unfold rfQ at h ⊢;rw[hN]at h ⊢;unfold rfN at h ⊢;split at h
 ·exact absurd h odc
 split at h
 ·exact absurd h odc
 split at h
 ·exact absurd h odc
 split at h
 ·exact absurd h odc
 split at h
 ·exact absurd h odc
 rename_i h1 h2 h3 h4 h5;rw[if_neg h1,if_neg h2,if_neg h3,if_neg h4,if_neg h5,hl];simp only;omega
def LX(q:QryE):AV:= .agg [.bool (decide (q.token.length≠0∧(Zz q).2.2=0)),.int .i64 (Zz q).1,bys (Zz q).2.1]
theorem NHl1.eqs{P Q:Prop}(g:Imp P Q:=by(try simp only[go_sem,seval,hsz,hag,hmo,f1,f2,ruAV,rbAV,Ze,Zx,bys,qb,Ya,hx]);exact Imp.rf):Imp P Q:=g
set_option maxHeartbeats 3200000 in
open NHl1 NY in
theorem WB(q:QryE)(hq:q.fine)(ht: -9223372036854775808≤q.time∧q.time<9223372036854775808)(H:Heap)(n:Nat):Ret prog 60 [Ze q] H n (.tup [LX q,.int .i64 (Zz q).2.2]) H n:=by
 have hsz:(Ze q).sz=10:=ZT q;have hag:(Ze q).isAgg=true:=rfl;have hmo:(Ze q).memOK=true:=rfl;have hTu:∀v:Nat,v≤1099511627776→(v≠u64 q.time↔(v:Int)≠q.time):=fun v hv=>by
   unfold u64;constructor
   ·intro h e;exact h (by rw[←e];omega)
   ·intro h e;exact h om
 unfold LX;obtain⟨z,hz⟩:∃z,z=Zz q:=⟨_,rfl⟩;rw[←hz];unfold Zz at hz;have hfl:=rfQ_len q.token;have htl:=hq.token;have hend:∀u row,(rfQ q.token).2.2=0→row.length≤256→(tokB q u row==q.token)=true→(rfQ q.token).2.1=(q.token.length:Int):=fun u row h0 hr he=>by
   have e:tokB q u row=q.token:=by simpa using he
   have h1:=Zp (Yc u);have h2:=Zp (v:=row.length) om;have h3:=Zp (Yc (sumF [YU q]));rw[←e]at h0 ⊢;exact frame_end (by simp only[qe,Zo];omega) h0
 obtain⟨fr,hfr⟩:∃f,f=rfQ q.token:=⟨_,rfl⟩;rw[←hfr]at hz hfl hend;obtain⟨hu1,hu2,hu3⟩:=ruB_lt fr.1 0;obtain⟨u,hu⟩:∃u,u=ruB fr.1 0:=⟨_,rfl⟩;rw[←hu]at hz hu1 hu2 hu3;have hbm:=NM fr.1 u.2.1 256;obtain⟨rb,hrb⟩:∃b,b=rbB fr.1 u.2.1 256:=⟨_,rfl⟩;rw[←hrb]at hz hbm;have hx:=hsz;have hxT:u.1≤1099511627776→IntKind.i64.wrap (u.1:Int)=(u.1:Int):=fun h=>w64 om om;have f1:(n=n+1)=False:=osi;have f2:(n+1=n)=False:=osi;refine Ret.fin ?_;refine fw func60 ntmps60 results60 ?_;refine rg zs [1,2] ?_;refine Za fun K1 hK1=> ?_;refine rg zs [1,2,14] ?_;refine Zb ?_ ?_<;>intro hb
 ·have h0:q.token.length=0:=by have h9:=hb;simp at h9;simp[h9]
  rw[if_pos h0]at hz;have hzz:z=(0,[],0):=hz;exact kaE
 have h0:¬q.token.length=0:=by have h9:=hb;simp at h9;simp[h9]
 rw[if_neg h0]at hz;refine kay ?_;refine rk zs [1,2,4,5,6] fun K V=> ?_;refine ck func97 ((hfr▸Mi q.token om _ _)) ?_;refine kas ?_;refine Za fun K2 hK2=> ?_;refine rg zs [1,2,4,31] ?_;refine Zb ?_ ?_<;>intro hb
 ·have hc1:fr.2.2≠0∨fr.2.1≠(q.token.length:Int):=by by_cases h:fr.2.2=0;(right;rw[h]at hb;simpa using hb);exact .inl h
  have hzz:z=(0,[],132):=by
    rw[hz];split;rfl;split;rfl;split;rfl;rename_i a1 a2 a3;exfalso;have a1:fr.2.2=0:=by simpa using a1
    refine hc1.elim (fun h=>h a1) (fun h=>h (hend (u.1:Int) rb.1 a1 (by simpa using hbm) ?_));cases e:(tokB q (u.1:Int) rb.1==q.token)with
    | true=>rfl
    | false=>exact absurd (.inr (.inr (.inr e))) a3
  exact kaE
 have hc1:fr.2.2=0:=by by_cases h:fr.2.2=0;exact h;(rw[show(fr.2.2 !=0)=true by simpa using h]at hb;cases hb)
 rw[if_neg (by simp[hc1])]at hz;refine kaQ ?_;refine rk zs [1,2,4,6,7,8] fun K V=> ?_;refine ck func98 ((hu▸QJ fr.1 0 om om _ _)) ?_;refine kas ?_;refine Za fun K3 hK3=> ?_;refine rg zs [1,2,4,7,8,60] ?_;refine Zb ?_ ?_<;>intro hb
 ·have hc : u.2.2 ≠ 0 ∨ u.1 < 1 ∨ 1099511627776 < u.1 ∨ (q.time ≠ 0 ∧ u.1 ≠ u64 q.time) := by
    by_cases c1:u.2.2=0<;>by_cases c2:u.1<1<;>by_cases c3:1099511627776<u.1
    all_goals first | exact .inl c1 | exact .inr (.inl c2) | exact .inr (.inr (.inl c3)) | skip
    have:=hxT om;have c5:=hTu u.1 om;simp[c1,this]at hb;exact .inr (.inr (.inr ⟨om,c5.2 om⟩))
  have hzz:z=(0,[],132):=by rw[hz,if_pos hc]
  refine rg zs [2,3] ?_;refine ar ?_;rw[hzz];exact⟨_,rfl,fun k hk=>oh,.tup (.cons (.agg (.cons (XW (by simp[h0])) (.cons (.kl trivial) (.cons .nilsl .nil)))) (.cons (.kl trivial) .nil))⟩
 have hc:¬(u.2.2≠0∨u.1<1∨1099511627776<u.1∨(q.time≠0∧u.1≠u64 q.time)):=by
   rintro(c1 | c1 | c1 | ⟨c1,c2⟩)
   ·rw[show(u.2.2 !=0)=true by simpa using c1]at hb;simp at hb
   ·simp[show decide ((u.1:Int)<1)=true from decide_eq_true om]at hb
   ·exact kcO
   ·by_cases c3:u.1≤1099511627776
    ·have c5:=(hTu u.1 c3).1 c2;simp[hxT c3,c1,c5]at hb
    ·exact kcO
 rw[if_neg hc]at hz;have hx:IntKind.i64.wrap (u.1:Int)=(u.1:Int):=hxT om;refine kba ?_;refine rk zs [1,2,6,7,9] fun K V=> ?_;refine ck func99 ((hrb▸Mj fr.1 u.2.1 256 om om om _ _)) ?_;refine kas ?_;refine Za fun K4 hK4=> ?_;refine dx zs [2,7,9,92] [.m,.q,.m,.m,.q,.q,.q,.m,.q,.m,.c,.q,.q,.m,.q,.m,.q,.m,.c,.q,.q,.c,.q,.q] [0,1,2,3,4,5,6,7,8,9,10,11,12,13,14,15,16,17,18,19,20,21,22,23] [0,1,2,3,4,5,6,7,8,9,10,11,12,13,14,15,16,17,18,19,20,21,22,23] fun K V=> ?_;refine cq func89 (fun _ n=>(Jg q rb.1 _ _)) ?_;refine cq func91 (fun _ n=>(JZ q hq u.1 rb.1 hbm _ _)) ?_;refine cq func46 (fun _ n=>(Xm (tokB q u.1 rb.1) q.token _ _)) ?_;refine kas ?_;refine Zb ?_ ?_<;>intro hb
 ·have hc2:rb.2.2≠0∨rb.1.length=0∨YX q rb.1=false∨(tokB q u.1 rb.1==q.token)=false:=by grind
  have hzz:z=(0,[],132):=by rw[hz,if_pos hc2]
  exact kaE
 have hc2:¬(rb.2.2≠0∨rb.1.length=0∨YX q rb.1=false∨(tokB q u.1 rb.1==q.token)=false):=by grind
 have hzz:z=(((u.1:Nat):Int),rb.1,0):=by rw[hz,if_neg hc2]
 refine kb3 ?_;refine rg zs [2,3] ?_;refine ar ?_;rw[hzz];exact⟨_,rfl,fun k hk=>oh,.tup (.cons (.agg (.cons (XW (by simp[h0])) (.cons (.kl trivial) (.cons (.kl (Xg _ _)) .nil)))) (.cons (.kl trivial) .nil))⟩
theorem Ma{nf:Nat}{q:QryE}(h:Yy nf q=true):0≤q.time∧q.time≤1099511627776:=by
 unfold Yy Uo at h;simp only[Bool.and_eq_true,decide_eq_true_eq]at h;exact⟨h.2.1.1.1.1.1.2,h.2.1.1.1.1.2⟩
theorem where_rel{fs:List Fml}(h:Zy fs=0)(t:List UInt8):((0≤(WJ fs t).2)↔(Xc fs t).2.1≠0)∧(0≤(WJ fs t).2→(Xc fs t).2.1=131):=by
 have hr:=readR_rel fs t;unfold Xc;rw[if_neg (by simp[h])];cases hp:Wu fs t with
 | ok x=>rw[hp]at hr;rw[hr.1];simp
 | error p=>rw[hp]at hr;have hr:(WJ fs t).2=p:=hr;rw[hr];simp
theorem NHl2.eqs{P Q:Prop}(g:Imp P Q:=by(try simp only[go_sem,seval,hsz,hag,hmo,hszs,hags,hmos,f1,f2,hA,hB,Zh,Ze,Zx,bys,qb,YZ,YS,Yz,Yf]);exact Imp.rf):Imp P Q:=g
set_option maxHeartbeats 1600000 in
open NHl2 NY in
theorem UC(fs:List Fml)(hfs:fs.length≤1048576)(q:QryE)(hq:q.fine)(H:Heap)(n:Nat):Ret prog 38 [Zh fs,Ze q] H n (.int .i64 (qcE fs q)) H n:=by
 have hsz:(Ze q).sz=10:=ZT q;have hag:(Ze q).isAgg=true:=rfl;have hmo:(Ze q).memOK=true:=rfl;have hszs:(Zh fs).sz=1:=rfl;have hags:(Zh fs).isAgg=true:=rfl;have hmos:(Zh fs).memOK=true:=rfl;have hms:(LX q).sz=3:=rfl;obtain⟨z,hz⟩:∃z,z=qcE fs q:=⟨_,rfl⟩;rw[←hz];unfold qcE at hz;have f1:(n=n+1)=False:=osi;have f2:(n+1=n)=False:=osi;have hA:=hsz;have hB:=hsz;refine Ret.fin ?_;refine fw func38 ntmps38 results38 ?_;refine rg zs [2,3] ?_;refine rc zs [2,3,5] func69 ((Kn fs _ _)) ?_;refine ZL [2,3,5] (fun T' H' n'=>∃e:Int,e=(if Zy fs≠0 then Zy fs else if Yy fs.length q then 0 else 130)∧T'=tl [(2,.loc n 0 0 0 []),(3,.loc (n+1) 0 0 0 []),(5,.int .i64 e)]∧H' n=some (.arr 0 1 [Zh fs])∧H' (n+1)=some (.arr 0 10 [Ze q])∧(∀k,k<n→H' k=H k)∧n'=n+2) ?_ ?_
 ·refine rg zs [2,3,5,11] ?_;refine Zb ?_ ?_<;>intro hb
  ·have hs0:Zy fs=0:=osb;have he0:∀a b:Int,(if Zy fs≠0 then a else b)=b:=fun a b=>if_neg (by simp[hs0]);refine rc1 zs [2,3,5] func70 ((PZ fs hfs q hq.fams _ _)) ?_;refine ns ?_;exact⟨_,(he0 _ _).symm,rfl,fun k hk=>onn⟩
  have hs0:Zy fs≠0:=osb;have he0:∀a b:Int,(if Zy fs≠0 then a else b)=a:=fun a b=>if_pos hs0;refine ak ?_;refine ns ?_;exact⟨_,(he0 _ _).symm,rfl,fun k hk=>onn⟩
 rintro T1 H1 n1 ⟨e,he,rfl,hA,hB,hlow,rfl⟩;refine Za fun K1 hK1=> ?_;refine rg zs [2,3,5,16] ?_;refine Zb ?_ ?_<;>intro hb
 ·have hz2 : z = e := by
    rw[hz,he];rw[he]at hb;by_cases h1:Zy fs=0
    ·rw[if_neg (by simp[h1])]at hb;have h2:Yy fs.length q=false:=by cases h2:Yy fs.length q;rfl;(rw[h2]at hb;simp at hb)
     rw[if_neg (by simp[h1]),if_pos h2,if_neg (by simp[h1]),if_neg (by simp[h2])]
    ·rw[if_pos h1,if_pos h1]
  refine rg zs [4] ?_;refine ar ?_;rw[←hz2];exact⟨_,rfl,fun k hk=>by(try simp only[Rl]);(repeat first | rw[if_pos rfl] | rw[if_pos trivial] | rw[if_neg om]);first | done | exact hlow k hk,.kl trivial⟩
 have hs1:Zy fs=0∧Yy fs.length q=true:=by
   rw[he]at hb;by_cases h1:Zy fs=0
   ·rw[if_neg (by simp[h1])]at hb;refine⟨h1,?_⟩;cases h2:Yy fs.length q;(rw[h2]at hb;simp at hb);rfl
   ·rw[if_pos h1]at hb;simp at hb;exact absurd hb h1
 rw[if_neg (by simp[hs1.1]),if_neg (by simp[hs1.2])]at hz;refine kay ?_;refine Za fun K2 hK2=> ?_;refine rg zs [2,3,20] ?_;refine Zb ?_ ?_<;>intro hb
 ·have hw0:0<q.whr.length:=by have h9:=hb;simp at h9;exact List.length_pos_iff.2 h9
  refine rc zs [3,7] func71 ((Le fs hfs q.whr _ _)) ?_;refine rg zs [3,29] ?_;refine Zb ?_ ?_<;>intro hb
  ·have hz2:z=131:=by have h9:=of_decide_eq_true hb;obtain⟨w1,w2⟩:=where_rel hs1.1 q.whr;rw[hz,if_pos ⟨hw0,w1.1 h9⟩];exact w2 h9
   refine kag ?_;rw[←hz2];exact kaO
  have h29:=of_decide_eq_false hb;rw[if_neg (fun h=>h29 ((where_rel hs1.1 q.whr).1.2 h.2))]at hz;refine kaQ ?_;refine rk zs [5] fun K V=> ?_;refine ck func60 ((WB q hq (by have:=Ma hs1.2;omega) _ _)) ?_;refine kas ?_;refine kag ?_;rw[hz];exact kaO
 have hw0:q.whr.length=0:=by have h9:=hb;simp at h9;simp[h9]
 rw[if_neg om]at hz;refine kaQ ?_;refine rk zs [5] fun K V=> ?_;refine ck func60 ((WB q hq (by have:=Ma hs1.2;omega) _ _)) ?_;refine kas ?_;refine kag ?_;rw[hz];exact kaO
open N0 in
theorem Vd(s:List UInt8)(c:Int)(H:Heap)(n:Nat):Ret prog 144 [.str s,.int .i64 c] H n (.bool (byS s c)) H n:=by
 unfold byS;refine fw func144 ntmps144 results144 ?_;refine kb1 ?_;refine Za fun K1 hK1=> ?_;refine rg zs [1,5] ?_;refine kbM ?_;refine rg zs [1,5,6] ?_;refine Zb ?_ ?_<;>intro hb
 ·have p1:s=[61]:=osb;refine kag ?_;rw[if_pos p1];done
 have p1:¬s=[61]:=osb;refine rg zs [1,5,10] ?_;refine Zb ?_ ?_<;>intro hb
 ·have p2:s=[33,61]:=osb;refine kag ?_;rw[if_neg p1,if_pos p2];done
 have p2:¬s=[33,61]:=osb;refine rg zs [1,5,14] ?_;refine Zb ?_ ?_<;>intro hb
 ·have p3:s=[60]:=osb;refine kag ?_;rw[if_neg p1,if_neg p2,if_pos p3];done
 have p3:¬s=[60]:=osb;refine rg zs [1,5,18] ?_;refine Zb ?_ ?_<;>intro hb
 ·have p4:s=[60,61]:=osb;refine kag ?_;rw[if_neg p1,if_neg p2,if_neg p3,if_pos p4];done
 have p4:¬s=[60,61]:=osb;refine rg zs [1,22] ?_;refine Zb ?_ ?_<;>intro hb
 ·have p5:s=[62]:=osb;refine kag ?_;rw[if_neg p1,if_neg p2,if_neg p3,if_neg p4,if_pos p5];done
 have p5:¬s=[62]:=osb;refine kay ?_;refine kag ?_;rw[if_neg p1,if_neg p2,if_neg p3,if_neg p4,if_neg p5];done
theorem cb_vals:∀a b:List UInt8,Lib.compareBytes a b= -1∨Lib.compareBytes a b=0∨Lib.compareBytes a b=1
 | [],[]=>by simp[Lib.compareBytes]
 | [],_::_=>by simp[Lib.compareBytes]
 | _::_,[]=>by simp[Lib.compareBytes]
 | a::l,b::m=>by rw[Qq];split;simp;split;simp;exact cb_vals l m
open N0 in
theorem J2(a b:List UInt8)(H:Heap)(n:Nat):Ret prog 145 [.str a,.str b] H n (.int .i64 (Lib.compareBytes a b)) H n:=by
 have hv:=cb_vals a b;obtain⟨e1,e2⟩:=Xh a b;refine fw func145 ntmps145 results145 ?_;refine kb1 ?_;refine bk fun K1 hK1=> ?_;refine rg zs [0,1,5] ?_;refine Zb ?_ ?_<;>intro hb
 ·have p1:Lib.compareBytes a b= -1:=by rw[e2]at hb;have:=of_decide_eq_true hb;omega
  refine kag ?_;rw[p1]
 have p1:¬Lib.compareBytes a b<0:=by rw[e2]at hb;exact of_decide_eq_false hb
 refine rg zs [9] ?_;refine Zb ?_ ?_<;>intro hb
 ·have p2:Lib.compareBytes a b=1:=by have h0:Lib.compareBytes a b≠0:=(fun e=>by rw[e1.1 e]at hb;simp at hb);omega
  refine kag ?_;rw[p2]
 have p2:Lib.compareBytes a b=0:=by rw[e2,decide_eq_false p1]at hb;simp at hb;exact e1.2 hb
 refine kay ?_;refine kag ?_;rw[p2]
theorem famIx_get:∀(l:List Fml) (w:List UInt8) (k:Nat),Xv l w k= -1∨∃i,i<l.length∧Xv l w k=((i+k:Nat):Int)∧(l.getD i default).name=w
 | [],w,k=> .inl rfl
 | f::l,w,k=>by
   unfold Xv;by_cases h:f.name=w
   ·rw[if_pos h];exact .inr ⟨0,osi,osi,by simpa using h⟩
   ·rw[if_neg h];rcases famIx_get l w (k+1)with h1 | ⟨i,h1,h2,h3⟩
    ·exact .inl h1
    ·exact .inr ⟨i+1,oz,by rw[h2];omega,by simpa using h3⟩
theorem Pz(all:List Fml):∀(l:List Fml) (k:Nat),X5 all l k=false→∀i,i<l.length→Vv all (l.getD i default) (i+k)=false
 | [],_,_,i,hi=>by simp at hi
 | f::l,k,h,i,hi=>by
   unfold X5 at h;rw[Bool.or_eq_false_iff]at h;cases i with
   | zero=>simpa using h.1
   | succ i=>have:=Pz all l (k+1) h.2 i (by simpa using hi);rw[show i+1+k=i+(k+1) by omega];simpa using this
theorem schema_ix{fs:List Fml}(h:Zy fs=0){i:Nat}(hi:i<fs.length):famF fs (fs.getD i default).name=(i:Int):=by
 unfold Zy at h;split at h
 ·cases h
 split at h
 ·cases h
 rename_i h1 h2;have:=Pz fs fs 0 (by simpa using h2) i hi;unfold Vv at this;simp only[Bool.or_eq_false_iff]at this;have:=this.1.1.2;unfold famF;simpa using this
theorem fam_eq{fs:List Fml}(h:Zy fs=0){i:Nat}(hi:i<fs.length){w:List UInt8}(hw:0≤famF fs w):((fs.getD i default).name==w)=(((i:Nat):Int)==famF fs w):=by
 rw[Bool.eq_iff_iff,beq_iff_eq,beq_iff_eq];constructor
 ·intro e;rw[←e];exact(schema_ix h hi).symm
 ·intro e;unfold famF at e hw;rcases famIx_get fs w 0 with h1 | ⟨j,h1,h2,h3⟩
  ·omega
  ·rw[h2]at e;have:i=j:=om
   rw[this];exact h3
instance:Inhabited CR:=⟨CR.none⟩
def Uv(fs:List Fml)(x:CelE)(c:CR):Prop:=∀(H:Heap) (n:Nat),Ret prog 124 [Zh fs,c.av,Zj x] H n (.bool ((c.tst fs).holds x)) H n
theorem ND10.eqs{P Q:Prop}(g:Imp P Q:=by(try simp only[go_sem,seval,hszs,hags,hmos,hsz,hag,hmo,YZ,YS,Yz,Yf,f1,f2,f3,f4,hnth,e1,r1,r2,r3,qg,qb,qd,Rw,Zj]);exact Imp.rf):Imp P Q:=g
set_option maxHeartbeats 3200000 in
open ND10 NY in
theorem c_holds_or(fs:List Fml)(x:CelE)(l:List CR)(hl:l≠[])(hll:l.length≤1048576)(h:∀c∈l,Uv fs x c)(s t:List UInt8)(m:Int):Uv fs x (.nd wOr l s t m):=fun H n=>by
 have hR:((CR.nd wOr l s t m).tst fs).holds x=l.any fun c=>(c.tst fs).holds x:=by
   show(Xl _ (Rs fs l)).holds x=_;rw[foldT_or (by rw[Rz];simpa using hl),Rz];simp[Function.comp_def]
 rw[hR];unfold CR.av wOr;rw[Rw];have hszs:(Zh fs).sz=1:=rfl;have hags:(Zh fs).isAgg=true:=rfl;have hmos:(Zh fs).memOK=true:=rfl;have hsz:(Zj x).sz=4:=Yp x;have hag:(Zj x).isAgg=true:=rfl;have hmo:(Zj x).memOK=true:=rfl;have hnth:=hsz;have e1:=hsz;have f1:(n=n+1)=False:=osi;have f2:(n=n+2)=False:=osi;have f3:(n+1=n+2)=False:=osi;have f4:(n+1=n)=False:=osi;have r1:=hsz;have r2:=hsz;have r3:=hsz;refine kaw ?_;refine Za fun K1 hK1=> ?_;refine kaz ?_;refine Zb ?_ ?_<;>intro hb
 ·refine Za fun K2 hK2=> ?_;refine rg zs [3,4,5,7] ?_;refine kbM ?_;refine Zk (fun T' H' n'=>∃i:Nat,i≤l.length∧(∀j,j<i→((l.getD j default).tst fs).holds x=false)∧T'=tl [(3,.loc n 0 0 0 []),(4,.loc (n+1) 0 0 0 []),(5,.loc (n+2) 0 0 0 []),(7,.int .i64 i)]∧H' n=some (.arr 0 1 [Zh fs])∧H' (n+1)=some (.arr 0 5 [.agg [.str wOr,.sl 5 (l.map CR.av),.str s,.str t,.int .i64 m]])∧H' (n+2)=some (.arr 0 4 [Zj x])∧(∀k,k<n→H' k=H k)∧n'=n+3) (fun T' _ _=>l.length-iv (T' 7)) ?_ ?_
  ·exact⟨0,Nat.zero_le _,fun j hj=>om,rfl,ohr,ohr,ohr,fun k hk=>oh,rfl⟩
  rintro T1 H1 n1 ⟨i,hi,hfa,rfl,r1,r2,r3,hlow,rfl⟩;refine Za fun K3 hK3=> ?_;refine rg zs [3,4,5,7,19] ?_;refine Zb ?_ ?_<;>intro hb
  ·have hci:i<l.length:=ott;have hnth:nth (l.map CR.av) i=(l.getD i default).av:=Zr CR.av l i hci;have hcl:=Yj l hci;have e1:IntKind.i64.wrap ((i:Int)+1)=((i+1:Nat):Int):=w1 om;refine kba ?_;refine bk fun K4 hK4=> ?_;refine dx zs [3,4,5,7,29] [.q,.q,.q,.m,.q,.q,.q,.c] [0,1,2,3,4,5,6,7] [0,1,2,3,4,5,6,7] fun K V=> ?_;refine cq func124 (fun _ n=>(h _ hcl _ _)) ?_;refine kas ?_;refine Zb ?_ ?_<;>intro hb
   ·have hre:(l.any fun c=>(c.tst fs).holds x)=true:=by first | (rw[List.any_eq_true];exact⟨_,hcl,hb⟩) | (rw[List.all_eq_false];exact⟨_,hcl,osb⟩)
    exact kam
   have hno:((l.getD i default).tst fs).holds x=false:=osb;refine kb3 ?_;refine rg1 zs [3,4,5,7] ?_;exact kbT
  have hci:i=l.length:=otf;have hre:(l.any fun c=>(c.tst fs).holds x)=false:=by
    subst hci;rw[List.any_eq_false];exact kbl
  refine ax ?_;apply hK2;exact kam
 exact kaJ
set_option maxHeartbeats 3200000 in
open ND10 NY in
theorem c_holds_and(fs:List Fml)(x:CelE)(l:List CR)(hl:l≠[])(hll:l.length≤1048576)(h:∀c∈l,Uv fs x c)(s t:List UInt8)(m:Int):Uv fs x (.nd wAnd l s t m):=fun H n=>by
 have hR:((CR.nd wAnd l s t m).tst fs).holds x=l.all fun c=>(c.tst fs).holds x:=by
   show(Xl _ (Rs fs l)).holds x=_;rw[foldT_and (by rw[Rz];simpa using hl),Rz];simp[Function.comp_def]
 rw[hR];unfold CR.av wAnd;rw[Rw];have hszs:(Zh fs).sz=1:=rfl;have hags:(Zh fs).isAgg=true:=rfl;have hmos:(Zh fs).memOK=true:=rfl;have hsz:(Zj x).sz=4:=Yp x;have hag:(Zj x).isAgg=true:=rfl;have hmo:(Zj x).memOK=true:=rfl;have hnth:=hsz;have e1:=hsz;have f1:(n=n+1)=False:=osi;have f2:(n=n+2)=False:=osi;have f3:(n+1=n+2)=False:=osi;have f4:(n+1=n)=False:=osi;have r1:=hsz;have r2:=hsz;have r3:=hsz;refine kaw ?_;refine Za fun K1 hK1=> ?_;refine kaz ?_;refine Zb ?_ ?_<;>intro hb
 ·exact kaJ
 refine rg zs [3,4,5,12,30] ?_;refine Zb ?_ ?_<;>intro hb
 ·refine Za fun K2 hK2=> ?_;refine rg zs [3,4,5,8] ?_;refine kbM ?_;refine Zk (fun T' H' n'=>∃i:Nat,i≤l.length∧(∀j,j<i→((l.getD j default).tst fs).holds x=true)∧T'=tl [(3,.loc n 0 0 0 []),(4,.loc (n+1) 0 0 0 []),(5,.loc (n+2) 0 0 0 []),(8,.int .i64 i)]∧H' n=some (.arr 0 1 [Zh fs])∧H' (n+1)=some (.arr 0 5 [.agg [.str wAnd,.sl 5 (l.map CR.av),.str s,.str t,.int .i64 m]])∧H' (n+2)=some (.arr 0 4 [Zj x])∧(∀k,k<n→H' k=H k)∧n'=n+3) (fun T' _ _=>l.length-iv (T' 8)) ?_ ?_
  ·exact⟨0,Nat.zero_le _,fun j hj=>om,rfl,ohr,ohr,ohr,fun k hk=>oh,rfl⟩
  rintro T1 H1 n1 ⟨i,hi,hfa,rfl,r1,r2,r3,hlow,rfl⟩;refine Za fun K3 hK3=> ?_;refine rg zs [3,4,5,8,36] ?_;refine Zb ?_ ?_<;>intro hb
  ·have hci:i<l.length:=ott;have hnth:nth (l.map CR.av) i=(l.getD i default).av:=Zr CR.av l i hci;have hcl:=Yj l hci;have e1:IntKind.i64.wrap ((i:Int)+1)=((i+1:Nat):Int):=w1 om;refine kba ?_;refine bk fun K4 hK4=> ?_;refine dx zs [3,4,5,8,47] [.q,.q,.q,.m,.q,.q,.q,.c,.q] [0,1,2,3,4,5,6,7,8] [0,1,2,3,4,5,6,7,8] fun K V=> ?_;refine cq func124 (fun _ n=>(h _ hcl _ _)) ?_;refine kas ?_;refine Zb ?_ ?_<;>intro hb
   ·have hre:(l.all fun c=>(c.tst fs).holds x)=false:=by first | (rw[List.any_eq_true];exact⟨_,hcl,hb⟩) | (rw[List.all_eq_false];exact⟨_,hcl,osb⟩)
    exact kam
   have hno:((l.getD i default).tst fs).holds x=true:=osb;refine kb3 ?_;refine rg1 zs [3,4,5,8] ?_;exact kbT
  have hci:i=l.length:=otf;have hre:(l.all fun c=>(c.tst fs).holds x)=true:=by
    subst hci;rw[List.all_eq_true];exact kbl
  refine ax ?_;apply hK2;exact kam
 exact kaJ
theorem ND11.eqs{P Q:Prop}(g:Imp P Q:=by(try simp only[go_sem,seval,hszs,hags,hmos,hsz,hag,hmo,YZ,YS,Yz,Yf,f1,f2,f3,f4,hnth,e1,qg,qb,qd,List.map_cons,List.map_nil,qi,List.length_nil,Zj]);exact Imp.rf):Imp P Q:=g
open ND11 NY in
theorem c_holds_not(fs:List Fml)(x:CelE)(c:CR)(h:Uv fs x c)(s t:List UInt8)(m:Int):Uv fs x (.nd wNot [c] s t m):=fun H n=>by
 have hR:((CR.nd wNot [c] s t m).tst fs).holds x= !((c.tst fs).holds x):=rfl;rw[hR];unfold CR.av wNot;rw[Rw];have hszs:(Zh fs).sz=1:=rfl;have hags:(Zh fs).isAgg=true:=rfl;have hmos:(Zh fs).memOK=true:=rfl;have hsz:(Zj x).sz=4:=Yp x;have hag:(Zj x).isAgg=true:=rfl;have hmo:(Zj x).memOK=true:=rfl;have hnth:=hsz;have e1:=hsz;have f1:(n=n+1)=False:=osi;have f2:(n=n+2)=False:=osi;have f3:(n+1=n+2)=False:=osi;have f4:(n+1=n)=False:=osi;refine kaw ?_;refine Za fun K1 hK1=> ?_;refine kaz ?_;refine Zb ?_ ?_<;>intro hb
 ·exact kaJ
 refine rg zs [3,4,5,12,30] ?_;refine Zb ?_ ?_<;>intro hb
 ·exact kaJ
 refine rg zs [3,4,5,12,48] ?_;refine Zb ?_ ?_<;>intro hb
 ·refine dx zs [6] [.q,.q,.q,.q,.q,.q,.c,.q,.q] [0,1,2,3,4,5,6,7,8] [0,1,2,3,4,5,6,7,8] fun K V=> ?_;refine cq func124 (fun _ n=>(h _ _)) ?_;refine kas ?_;exact kbx
 exact kaJ
open ND11 NY in
theorem c_holds_in(fs:List Fml)(x:CelE)(c:CR)(h:Uv fs x c)(s t:List UInt8)(m:Int):Uv fs x (.nd wIn [c] s t m):=fun H n=>by
 have hR:((CR.nd wIn [c] s t m).tst fs).holds x=(c.tst fs).holds x:=rfl;rw[hR];unfold CR.av wIn;rw[Rw];have hszs:(Zh fs).sz=1:=rfl;have hags:(Zh fs).isAgg=true:=rfl;have hmos:(Zh fs).memOK=true:=rfl;have hsz:(Zj x).sz=4:=Yp x;have hag:(Zj x).isAgg=true:=rfl;have hmo:(Zj x).memOK=true:=rfl;have hnth:=hsz;have e1:=hsz;have f1:(n=n+1)=False:=osi;have f2:(n=n+2)=False:=osi;have f3:(n+1=n+2)=False:=osi;have f4:(n+1=n)=False:=osi;refine kaw ?_;refine Za fun K1 hK1=> ?_;refine kaz ?_;refine Zb ?_ ?_<;>intro hb
 ·exact kaJ
 refine rg zs [3,4,5,12,30] ?_;refine Zb ?_ ?_<;>intro hb
 ·exact kaJ
 refine rg zs [3,4,5,12,48] ?_;refine Zb ?_ ?_<;>intro hb
 ·exact kaJ
 refine rg zs [3,4,5,12,58] ?_;refine Zb ?_ ?_<;>intro hb
 ·refine dx zs [6] [.q,.q,.q,.q,.q,.q,.c,.q] [0,1,2,3,4,5,6,7] [0,1,2,3,4,5,6,7] fun K V=> ?_;refine cq func124 (fun _ n=>(h _ _)) ?_;refine kas ?_;exact kbx
 exact kaJ
theorem ND12.eqs{P Q:Prop}(g:Imp P Q:=by(try simp only[go_sem,seval,hszs,hags,hmos,hsz,hag,hmo,YZ,YS,Yz,Yf,f1,f2,f3,f4,hn2,hx,Y6,Zh,qg,qb,qd,Rw,Zj]);exact Imp.rf):Imp P Q:=g
theorem ND12.sd{P:Prop}(g:P:=by first | exact⟨om,om⟩ | fail):P:=g
open ND12 NZ in
theorem c_holds_fam(fs:List Fml)(hfs:Zy fs=0)(x:CelE){i:Nat}(hi:i<fs.length)(hx:x.fam=(i:Int))(s t:List UInt8)(ht:0≤famF fs t)(m:Int):Uv fs x (.nd wFam [] s t m):=fun H n=>by
 have hR:((CR.nd wFam [] s t m).tst fs).holds x=((((fs.getD i default).name==t))==(s==[61])):=by
   rw[fam_eq hfs hi ht];show((x.fam==famF fs t)==(s==[61]))=_;rw[hx]
 rw[hR];unfold CR.av wFam;have hszs:(Zh fs).sz=1:=rfl;have hags:(Zh fs).isAgg=true:=rfl;have hmos:(Zh fs).memOK=true:=rfl;have hsz:(Zj x).sz=4:=Yp x;have hag:(Zj x).isAgg=true:=rfl;have hmo:(Zj x).memOK=true:=rfl;have hnth:=hsz;have e1:=hsz;have f1:(n=n+1)=False:=osi;have f2:(n=n+2)=False:=osi;have f3:(n+1=n+2)=False:=osi;have f4:(n+1=n)=False:=osi;have hn2:nth (fs.map Y6) i=Y6 (fs.getD i default):=Zr Y6 fs i hi;refine kaw ?_;refine Za fun K1 hK1=> ?_;refine kaz ?_;refine Zb ?_ ?_<;>intro hb
 ·exact kaJ
 refine rg zs [3,4,5,12,30] ?_;refine Zb ?_ ?_<;>intro hb
 ·exact kaJ
 refine rg zs [3,4,5,12,48] ?_;refine Zb ?_ ?_<;>intro hb
 ·exact kaJ
 refine rg zs [3,4,5,12,58] ?_;refine Zb ?_ ?_<;>intro hb
 ·exact kaJ
 refine rg zs [3,4,5,12,67] ?_;refine Zb ?_ ?_<;>intro hb
 ·refine dx zs [6] [.q,.q,.q,.q,.q,.q,.q,.q,.q,.q,.q,.q,.q,.q,.q] [0,1,2,3,4,5,6,7,8,9,10,11,12,13,14] [0,1,2,3,4,5,6,7,8,9,10,11,12,13,14] fun K V=> ?_;refine kas ?_;exact kbx
 exact kaJ
theorem ND13.eqs{P Q:Prop}(g:Imp P Q:=by(try simp only[go_sem,seval,hszs,hags,hmos,hsz,hag,hmo,YZ,YS,Yz,Yf,f1,f2,f3,f4,hnth,e1,qg,qb,qd,Rw,Zj]);exact Imp.rf):Imp P Q:=g
open ND13 NY in
theorem c_holds_ts(fs:List Fml)(x:CelE)(s t:List UInt8)(m:Nat):Uv fs x (.nd wTs [] s t m):=fun H n=>by
 have hR:((CR.nd wTs [] s t m).tst fs).holds x=byS s (cmpI x.ts m):=by
   show byS s (cmpI x.ts (((m:Int).toNat:Nat):Int))=_;rw[qd]
 rw[hR];unfold CR.av wTs;have hszs:(Zh fs).sz=1:=rfl;have hags:(Zh fs).isAgg=true:=rfl;have hmos:(Zh fs).memOK=true:=rfl;have hsz:(Zj x).sz=4:=Yp x;have hag:(Zj x).isAgg=true:=rfl;have hmo:(Zj x).memOK=true:=rfl;have hnth:=hsz;have e1:=hsz;have f1:(n=n+1)=False:=osi;have f2:(n=n+2)=False:=osi;have f3:(n+1=n+2)=False:=osi;have f4:(n+1=n)=False:=osi;refine kaw ?_;refine Za fun K1 hK1=> ?_;refine kaz ?_;refine Zb ?_ ?_<;>intro hb
 ·exact kaJ
 refine rg zs [3,4,5,12,30] ?_;refine Zb ?_ ?_<;>intro hb
 ·exact kaJ
 refine rg zs [3,4,5,12,48] ?_;refine Zb ?_ ?_<;>intro hb
 ·exact kaJ
 refine rg zs [3,4,5,12,58] ?_;refine Zb ?_ ?_<;>intro hb
 ·exact kaJ
 refine rg zs [3,4,5,12,67] ?_;refine Zb ?_ ?_<;>intro hb
 ·exact kaJ
 refine rg zs [4,5,83] ?_;refine Zb ?_ ?_<;>intro hb
 ·refine rg zs [4,5,9] ?_;refine ZL [4,5,9] (fun T' H' n'=>T'=tl [(4,.loc (n+1) 0 0 0 []),(5,.loc (n+2) 0 0 0 []),(9,.int .i64 (if x.ts<(m:Int)then -1 else 0))]∧H'=((H.put n (some (.arr 0 1 [Zh fs]))).put (n+1) (some (.arr 0 5 [.agg [.str [116,115],.sl 5 (RA []),.str s,.str t,.int .i64 m]]))).put (n+2) (some (.arr 0 4 [Zj x]))∧n'=n+3) ?_ ?_
  ·refine rg zs [4,5,9,89] ?_;refine Zb ?_ ?_<;>intro hb
   ·refine rg1 zs [4,5,9] ?_;refine ns ?_;rw[if_pos (of_decide_eq_true hb)]
   refine ak ?_;refine ns ?_;rw[if_neg (of_decide_eq_false hb)]
  rintro T1 H1 n1 ⟨rfl,rfl,rfl⟩;refine ZL [4,9] (fun T' H' n'=>T'=tl [(4,.loc (n+1) 0 0 0 []),(9,.int .i64 (cmpI x.ts m))]∧H'=((H.put n (some (.arr 0 1 [Zh fs]))).put (n+1) (some (.arr 0 5 [.agg [.str [116,115],.sl 5 (RA []),.str s,.str t,.int .i64 m]]))).put (n+2) (some (.arr 0 4 [Zj x]))∧n'=n+3) ?_ ?_
  ·refine rg zs [4,9,94] ?_;refine Zb ?_ ?_<;>intro hb
   ·refine rg1 zs [4,9] ?_;refine ns ?_;have h9:=of_decide_eq_true hb;rw[show cmpI x.ts m=1 by unfold cmpI;rw[if_neg om,if_pos h9]];done
   refine ak ?_;refine ns ?_;have h9:=of_decide_eq_false hb;rw[show cmpI x.ts m=if x.ts<(m:Int)then -1 else 0 by unfold cmpI;rw[if_neg h9]];done
  rintro T1 H1 n1 ⟨rfl,rfl,rfl⟩;refine rc zs [6] func144 ((Vd s (cmpI x.ts m) _ _)) ?_;exact kbx
 exact kaJ
theorem ND14.eqs{P Q:Prop}(g:Imp P Q:=by(try simp only[go_sem,seval,hszs,hags,hmos,hsz,hag,hmo,YZ,YS,Yz,Yf,f1,f2,f3,f4,Zt,List.drop_zero,Option.getD_some,Option.getD_none,Int.toNat_zero,qg,qb,qd,Rw,Zj]);exact Imp.rf):Imp P Q:=g
theorem ND14.sd{P:Prop}(g:P:=by first | (intros;simp_all;done) | exact Yg _ | fail):P:=g
open ND14 NZ in
theorem c_holds_value(fs:List Fml)(x:CelE)(s t:List UInt8)(m:Int):Uv fs x (.nd YG [] s t m):=fun H n=>by
 have hR:((CR.nd YG [] s t m).tst fs).holds x=if s=[94]then t.isPrefixOf x.value else byS s (Lib.compareBytes x.value t):=rfl
 rw[hR];unfold CR.av YG;have hszs:(Zh fs).sz=1:=rfl;have hags:(Zh fs).isAgg=true:=rfl;have hmos:(Zh fs).memOK=true:=rfl;have hsz:(Zj x).sz=4:=Yp x;have hag:(Zj x).isAgg=true:=rfl;have hmo:(Zj x).memOK=true:=rfl;have hnth:=hsz;have e1:=hsz;have f1:(n=n+1)=False:=osi;have f2:(n=n+2)=False:=osi;have f3:(n+1=n+2)=False:=osi;have f4:(n+1=n)=False:=osi;refine kaw ?_;refine Za fun K1 hK1=> ?_;refine kaz ?_;refine Zb ?_ ?_<;>intro hb
 ·exact kaJ
 refine rg zs [3,4,5,12,30] ?_;refine Zb ?_ ?_<;>intro hb
 ·exact kaJ
 refine rg zs [3,4,5,12,48] ?_;refine Zb ?_ ?_<;>intro hb
 ·exact kaJ
 refine rg zs [3,4,5,12,58] ?_;refine Zb ?_ ?_<;>intro hb
 ·exact kaJ
 refine rg zs [3,4,5,12,67] ?_;refine Zb ?_ ?_<;>intro hb
 ·exact kaJ
 refine rg zs [4,5,83] ?_;refine Zb ?_ ?_<;>intro hb
 ·exact kaJ
 refine kay ?_;refine rg zs [4,5,10] ?_;refine Za fun K2 hK2=> ?_;refine rg zs [4,5,10,104] ?_;refine Zb ?_ ?_<;>intro hb
 ·exact kaJ
 refine kaQ ?_;refine Za fun K3 hK3=> ?_;refine rg zs [4,10,110] ?_;refine Zb ?_ ?_<;>intro hb
 ·have p1:s=[94]:=osb;refine dx zs [6] [.m,.q,.q,.q,.q,.q,.m,.m,.q,.q,.q,.q,.q,.q,.q,.q,.q] [0,1,2,3,4,5,6,7,8,9,10,11,12,13,14,15,16] [0,1,2,3,4,5,6,7,8,9,10,11,12,13,14,15,16] fun K V=> ?_;refine kas ?_;refine ar ?_;rw[if_pos p1,XV];refine⟨_,rfl,fun k hk=>oh,Frz.eq ?_ trivial⟩;rw[show decide ((t.length:Int)≤(x.value.length:Int))=decide (t.length≤x.value.length)from decide_eq_decide.2 om];cases decide (t.length≤x.value.length)<;>rfl
 have p1:¬s=[94]:=osb;refine kba ?_;refine dx zs [6] [.q,.q,.m,.q,.q,.c,.c,.q] [0,1,2,3,4,5,6,7] [0,1,2,3,4,5,6,7] fun K V=> ?_;refine cq func145 (fun _ n=>(J2 x.value t _ _)) ?_;refine cq func144 (fun _ n=>(Vd s (Lib.compareBytes x.value t) _ _)) ?_;refine kas ?_;refine ar ?_;rw[if_neg p1];exact⟨_,rfl,fun k hk=>oh,Frz.eq rfl trivial⟩
open ND14 NZ in
theorem c_holds_qual(fs:List Fml)(x:CelE)(s t:List UInt8)(m:Int):Uv fs x (.nd Y1 [] s t m):=fun H n=>by
 have hR:((CR.nd Y1 [] s t m).tst fs).holds x=if s=[94]then t.isPrefixOf x.qual else byS s (Lib.compareBytes x.qual t):=rfl
 rw[hR];unfold CR.av Y1;have hszs:(Zh fs).sz=1:=rfl;have hags:(Zh fs).isAgg=true:=rfl;have hmos:(Zh fs).memOK=true:=rfl;have hsz:(Zj x).sz=4:=Yp x;have hag:(Zj x).isAgg=true:=rfl;have hmo:(Zj x).memOK=true:=rfl;have hnth:=hsz;have e1:=hsz;have f1:(n=n+1)=False:=osi;have f2:(n=n+2)=False:=osi;have f3:(n+1=n+2)=False:=osi;have f4:(n+1=n)=False:=osi;refine kaw ?_;refine Za fun K1 hK1=> ?_;refine kaz ?_;refine Zb ?_ ?_<;>intro hb
 ·exact kaJ
 refine rg zs [3,4,5,12,30] ?_;refine Zb ?_ ?_<;>intro hb
 ·exact kaJ
 refine rg zs [3,4,5,12,48] ?_;refine Zb ?_ ?_<;>intro hb
 ·exact kaJ
 refine rg zs [3,4,5,12,58] ?_;refine Zb ?_ ?_<;>intro hb
 ·exact kaJ
 refine rg zs [3,4,5,12,67] ?_;refine Zb ?_ ?_<;>intro hb
 ·exact kaJ
 refine rg zs [4,5,83] ?_;refine Zb ?_ ?_<;>intro hb
 ·exact kaJ
 refine kay ?_;refine rg zs [4,5,10] ?_;refine Za fun K2 hK2=> ?_;refine rg zs [4,5,10,104] ?_;refine Zb ?_ ?_<;>intro hb
 ·refine rg1 zs [4,10] ?_;apply hK2;refine Za fun K3 hK3=> ?_;refine rg zs [4,10,110] ?_;refine Zb ?_ ?_<;>intro hb
  ·have p1:s=[94]:=osb;refine dx zs [6] [.m,.q,.q,.q,.q,.q,.m,.m,.q,.q,.q,.q,.q,.q,.q,.q,.q] [0,1,2,3,4,5,6,7,8,9,10,11,12,13,14,15,16] [0,1,2,3,4,5,6,7,8,9,10,11,12,13,14,15,16] fun K V=> ?_;refine kas ?_;refine ar ?_;rw[if_pos p1,XV];refine⟨_,rfl,fun k hk=>oh,Frz.eq ?_ trivial⟩;rw[show decide ((t.length:Int)≤(x.qual.length:Int))=decide (t.length≤x.qual.length)from decide_eq_decide.2 om];cases decide (t.length≤x.qual.length)<;>rfl
  have p1:¬s=[94]:=osb;refine kba ?_;refine dx zs [6] [.q,.q,.m,.q,.q,.c,.c,.q] [0,1,2,3,4,5,6,7] [0,1,2,3,4,5,6,7] fun K V=> ?_;refine cq func145 (fun _ n=>(J2 x.qual t _ _)) ?_;refine cq func144 (fun _ n=>(Vd s (Lib.compareBytes x.qual t) _ _)) ?_;refine kas ?_;refine ar ?_;rw[if_neg p1];exact⟨_,rfl,fun k hk=>oh,Frz.eq rfl trivial⟩
 exact kaJ
mutual
theorem c_holds{fs:List Fml}(hfs:Zy fs=0)(x:CelE){i:Nat}(hi:i<fs.length)(hx:x.fam=(i:Int)):∀c:CR,c.good fs→c.small→Uv fs x c
 | .nd k l s t m,hg,hs=>by
   unfold CR.good at hg;by_cases h1:k=wOr
   ·rw[if_pos h1]at hg;rw[h1];exact c_holds_or fs x l hg.1 hs.1 (Ji hfs x hi hx l hg.2 hs.2) s t m
   rw[if_neg h1]at hg;by_cases h2:k=wAnd
   ·rw[if_pos h2]at hg;rw[h2];exact c_holds_and fs x l hg.1 hs.1 (Ji hfs x hi hx l hg.2 hs.2) s t m
   rw[if_neg h2]at hg;have one:l.length=1→∃c,l=[c]:=fun h=>by
     cases l with
     | nil=>cases h
     | cons c l=>cases l with | nil=>exact⟨c,rfl⟩ | cons _ _=>simp at h
   by_cases h3:k=wNot
   ·rw[if_pos h3]at hg;rw[h3];obtain⟨c,rfl⟩:=one hg.1;exact c_holds_not fs x c (Ji hfs x hi hx [c] hg.2 hs.2 c osi) s t m
   rw[if_neg h3]at hg;by_cases h4:k=wIn
   ·rw[if_pos h4]at hg;rw[h4];obtain⟨c,rfl⟩:=one hg.1;exact c_holds_in fs x c (Ji hfs x hi hx [c] hg.2 hs.2 c osi) s t m
   rw[if_neg h4]at hg;obtain⟨rfl,hg⟩:=hg;rcases hg with⟨rfl,hg⟩ | ⟨rfl,hg⟩ | rfl | rfl
   ·exact c_holds_fam fs hfs x hi hx s t hg m
   ·obtain⟨m',rfl⟩:∃m':Nat,m=m':=⟨m.toNat,om⟩;exact c_holds_ts fs x s t m'
   ·exact c_holds_qual fs x s t m
   ·exact c_holds_value fs x s t m
theorem Ji{fs:List Fml}(hfs:Zy fs=0)(x:CelE){i:Nat}(hi:i<fs.length)(hx:x.fam=(i:Int)):∀l:List CR,Ru fs l→CR.smalls l→∀c∈l,Uv fs x c
 | [],_,_,c,hc=>by cases hc
 | a::l,hg,hs,c,hc=>by
   rcases List.mem_cons.1 hc with h | h
   ·rw[h];exact c_holds hfs x hi hx a hg.1 hs.1
   ·exact Ji hfs x hi hx l hg.2 hs.2 c h
end
theorem readR_good{fs:List Fml}{t:List UInt8}{x:Tst×List UInt8}(h:Wu fs t= .ok x):(WJ fs t).1.good fs∧(WJ fs t).1.small∧(WJ fs t).1.tst fs=x.1:=by
 have hr:=readR_rel fs t;rw[h]at hr;unfold WJ at hr ⊢;by_cases h1:512<t.length
 ·rw[if_pos h1]at hr;simp at hr
 rw[if_neg h1]at hr ⊢;by_cases h2:0≤(Zl t s0R).bad
 ·rw[if_pos h2]at hr;simp only at hr;omega
 rw[if_neg h2]at hr ⊢;simp only at hr ⊢;have h3:(Yh fs t (8*t.length+16) (Zl t s0R)).2.bad<0:=by
   rcases Int.lt_or_le (Yh fs t (8*t.length+16) (Zl t s0R)).2.bad 0 with h4 | h4
   ·exact h4
   ·have:=hr.1;rw[if_neg (fun e=>by have:=e.1;omega)]at this;omega
 exact⟨(cr_good _).2.2.2.2 _ om h3,(cr_small _ om).2.2.2.2 _,hr.2⟩
theorem famsOut_no{nf:Nat}{l:List CelE}(h:YY nf l=false){i:Nat}(hi:i<l.length):∃m:Nat,m<nf∧(l.getD i default).fam=(m:Int):=by
 unfold YY at h;rw[List.any_eq_false]at h;have h9:bout (l.getD i default).fam 0 ((nf:Int)-1)=false:=by
   cases hb:bout (l.getD i default).fam 0 ((nf:Int)-1)with
   | false=>rfl
   | true=>exact absurd hb (h _ (Yj l hi))
 have:=V9 h9;exact⟨(l.getD i default).fam.toNat,om,om⟩
theorem Qt(b:List UInt8)(hb:b.length≤1099511627776)(H:Heap)(n:Nat):Ret prog 58 [bys b,.int .i64 0,.int .i64 b.length] H n (bys b) H n:=by
 have:=Uq b hb 0 b.length (Nat.zero_le _) (Nat.le_refl _) H n
 rwa [List.take_length,List.drop_zero]at this
structure WantOK(fs:List Fml)(q:QryE):Prop where
 sch:Zy fs=0
 ok:0<q.whr.length→∃x,Wu fs q.whr= .ok x
theorem want_hold{fs:List Fml}{q:QryE}(h:WantOK fs q)(h0:0<q.whr.length)(x:CelE){i:Nat}(hi:i<fs.length)(hx:x.fam=(i:Int))(H:Heap)(n:Nat):Ret prog 124 [Zh fs,(WJ fs q.whr).1.av,Zj x] H n (.bool (UA (Z6 fs q) x)) H n:=by
 obtain⟨y,hy⟩:=h.ok h0;obtain⟨g1,g2,g3⟩:=readR_good hy;have:=c_holds h.sch x hi hx _ g1 g2 H n;rw[g3]at this;rw[Nt h0 hy];exact this
theorem inF_step(l:List Int)(f:Int){j:Nat}(hj:j<l.length):(l.isEmpty||(l.take (j+1)).contains f)=((l.isEmpty||(l.take j).contains f)||(l.getD j default==f)):=by
 rw[UN l hj,List.contains_append,Bool.or_assoc];congr 1;congr 1;rw[Bool.eq_iff_iff];simp;exact eq_comm
theorem ND20.eqs{P Q:Prop}(g:Imp P Q:=by(try simp only[go_sem,seval,hszs,hags,hmos,hszq,hagq,hmoq,hszr,hagr,hmor,hcs,hca,hcm,f1,f2,f3,f4,b1,b2,b3,b4,b5,hnth,hnf,e1,e2,g1,g2,g3,g4,g5,YZ,YS,Yz,Yf,qg,qb,qd,Zt,List.drop_zero,Option.getD_some,Option.getD_none,Int.toNat_zero,Zf,Zj,Ze,Zx,bys]);exact Imp.rf):Imp P Q:=g
theorem ND20.sd{P:Prop}(g:P:=by first | exact fun _=>⟨om,om⟩ | exact⟨om,om⟩ | (intro _ h9;rw[h9];rfl) | exact⟨rfl,by(simp[AV.sz,AV.szs,AV.memOK];first | done | fail)⟩ | exact⟨Nat.le_refl _,.inr trivial,om,om⟩ | fail):P:=g
set_option maxHeartbeats 6400000 in
open ND20 NZ in
theorem PV(fs : List Fml)(hfs : fs.length ≤ 1048576)(q : QryE)(hqf : q.fams.length ≤ 1048576)(r : RowE)(hcl : r.cells.length ≤ 1048576)(hcb : ∀ c ∈ r.cells, c.qual.length ≤ 1099511627776 ∧ c.value.length ≤ 1099511627776)(hfam : YY fs.length r.cells = false)(hw : WantOK fs q)(H : Heap)(n : Nat):
   Ret prog 90 [Zh fs,Ze q,Zf r] H n (.sl 4 ((ZI q (Z6 fs q) r.cells).map Zj)) H n:=by
 have hszs:(Zh fs).sz=1:=rfl;have hags:(Zh fs).isAgg=true:=rfl;have hmos:(Zh fs).memOK=true:=rfl;have hszq:(Ze q).sz=10:=ZT q;have hagq:(Ze q).isAgg=true:=rfl;have hmoq:(Ze q).memOK=true:=rfl;have hszr:(Zf r).sz=2:=Ws r;have hagr:(Zf r).isAgg=true:=rfl;have hmor:(Zf r).memOK=true:=rfl;have hcs:∀c,(Zj c).sz=4:=Yp;have hca:∀c,(Zj c).isAgg=true:=fun _=>rfl;have hcm:∀c,(Zj c).memOK=true:=fun _=>rfl;have f1:(n=n+1)=False:=osi;have f2:(n=n+2)=False:=osi;have f3:(n+1=n+2)=False:=osi;have f4:(n+1=n)=False:=osi;have b1:=hszs;have b2:=hszs;have b3:=hszs;have b4:=hszs;have b5:=hszs;have hnth:=hszs;have hnf:=hszs;have e1:=hszs;have e2:=hszs;have g1:=hszs;have g2:=hszs;have g3:=hszs;have g4:=hszs;have g5:=hszs;refine Ret.fin ?_;refine fw func90 ntmps90 results90 ?_;refine rg zs [3,4,5] ?_;refine rg zs [3,4,5,7] ?_;refine rc zs [3,4,5,7,8] func71 ((Le fs hfs q.whr _ _)) ?_;refine Za fun K1 hK1=> ?_;refine rg zs [3,4,5,7,8,10] ?_;refine Zq ?_;refine ZN 7 4 rfl ?_;refine Yl [3,4,5,7,8,10] ?_;simp only[go_sem,seval];refine Zk (fun T' H' n'=>∃(i ver:Nat),i≤r.cells.length∧T'=tl [(3,.loc n 0 0 0 []),(4,.loc (n+1) 0 0 0 []),(5,.loc (n+2) 0 0 0 []),(7,.osl (n+4) ver 0 (ZI q (Z6 fs q) (r.cells.take i)).length),(8,.loc (n+3) 0 0 0 []),(10,.int .i64 i)]∧H' n=some (.arr 0 1 [Zh fs])∧H' (n+1)=some (.arr 0 10 [Ze q])∧H' (n+2)=some (.arr 0 2 [Zf r])∧H' (n+3)=some (.arr 0 5 [(WJ fs q.whr).1.av])∧H' (n+4)=some (.arr ver 4 ((ZI q (Z6 fs q) (r.cells.take i)).map Zj))∧(∀k,k<n→H' k=H k)∧n+5≤n') (fun T' _ _=>r.cells.length-iv (T' 10)) ?_ ?_
 ·exact⟨0,0,Nat.zero_le _,rfl,ohr,ohr,ohr,oh,ohr,fun k hk=>oh,om⟩
 rintro T1 H1 n1 ⟨i,ver,hi,rfl,b1,b2,b3,b4,b5,hlow,hn1⟩;refine Za fun K2 hK2=> ?_;refine rg zs [3,4,5,7,8,10,26] ?_;refine Zb ?_ ?_<;>intro hb
 ·have hci:i<r.cells.length:=ott;have hnth:nth (r.cells.map Zj) i=Zj (r.cells.getD i default):=Zr Zj r.cells i hci;have hsn:=MJ q (Z6 fs q) r.cells hci;have hcb1:=hcb _ (Yj r.cells hci);have hfa:=famsOut_no hfam hci;have e1:IntKind.i64.wrap ((i:Int)+1)=((i+1:Nat):Int):=w1 om;have hchl:(ZI q (Z6 fs q) (r.cells.take i)).length≤1048576:=by have:=List.length_filter_le (Y8 q (Z6 fs q)) (r.cells.take i);unfold ZI;rw[qk]at this;omega
  generalize r.cells.getD i default=x at*;obtain⟨fm,hfa1,hfa2⟩:=hfa;have g1:(n+1=n1)=False:=oz;have g2:(n=n1)=False:=oz;have g3:(n+3=n1)=False:=oz;have g4:(n+4=n1)=False:=oz;refine ak ?_;apply hK2;refine ZL [3,4,5,7,8,10] (fun T' H' n'=>∃ver,T'=tl [(3,.loc n 0 0 0 []),(4,.loc (n+1) 0 0 0 []),(5,.loc (n+2) 0 0 0 []),(7,.osl (n+4) ver 0 (ZI q (Z6 fs q) (r.cells.take (i+1))).length),(8,.loc (n+3) 0 0 0 []),(10,.int .i64 i)]∧H' n=some (.arr 0 1 [Zh fs])∧H' (n+1)=some (.arr 0 10 [Ze q])∧H' (n+2)=some (.arr 0 2 [Zf r])∧H' (n+3)=some (.arr 0 5 [(WJ fs q.whr).1.av])∧H' (n+4)=some (.arr ver 4 ((ZI q (Z6 fs q) (r.cells.take (i+1))).map Zj))∧(∀k,k<n→H' k=H k)∧n+5≤n') ?_ ?_
  ·refine Zq ?_;refine rg zs [3,4,5,7,8,10,11] ?_;refine rg zs [3,4,5,7,8,10,11,12] ?_;refine Za fun K3 hK3=> ?_;refine rg zs [3,4,5,7,8,10,11,12,13] ?_;refine Zq ?_;refine Zk (fun T' H' n'=>∃j:Nat,j≤q.fams.length∧T'=tl [(3,.loc n 0 0 0 []),(4,.loc (n+1) 0 0 0 []),(5,.loc (n+2) 0 0 0 []),(7,.osl (n+4) ver 0 (ZI q (Z6 fs q) (r.cells.take i)).length),(8,.loc (n+3) 0 0 0 []),(10,.int .i64 i),(11,.loc n1 0 0 0 []),(12,.bool (q.fams.isEmpty||(q.fams.take j).contains x.fam)),(13,.int .i64 j)]∧H'=H1.put n1 (some (.arr 0 4 [Zj x]))∧n'=n1+1) (fun T' _ _=>q.fams.length-iv (T' 13)) ?_ ?_
   ·exact⟨0,Nat.zero_le _,by rw[show(q.fams.isEmpty||(q.fams.take 0).contains x.fam)=((q.fams.length:Int)==0) by cases q.fams<;>simp<;>omega];rfl,rfl,rfl⟩
   rintro T1 H1 n1 ⟨j,hj,rfl,rfl,rfl⟩;refine Za fun K4 hK4=> ?_;refine rg zs [3,4,5,7,8,10,11,12,13,42] ?_;refine Zb ?_ ?_<;>intro hb
   ·have hjl:j<q.fams.length:=ott;have hnf:nth (q.fams.map fun x:Int=>(.int .i64 x:AV)) j= .int .i64 (q.fams.getD j default):=Zr (fun x:Int=>(.int .i64 x:AV)) q.fams j hjl;have e2:IntKind.i64.wrap ((j:Int)+1)=((j+1:Nat):Int):=w1 om;refine ak ?_;apply hK4;refine bk fun K5 hK5=> ?_;refine dx1 zs [3,4,5,7,8,10,11,12,13] [.m,.m,.q,.q,.m,.q,.q,.q,.q,.q,.q,.q] [0,1,2,3,4,5,6,7,8,9,10,11] [0,1,2,3,4,5,6,7,8,9,10,11] fun K V=> ?_;apply V;clear V K;refine ns ?_;apply hK5;refine rg1 zs [3,4,5,7,8,10,11,12,13] ?_;exact⟨⟨j+1,om,by rw[inF_step _ _ hjl];cases (q.fams.isEmpty||(q.fams.take j).contains x.fam)<;>rfl⟩,om⟩
   have hjl:j=q.fams.length:=otf;subst hjl;have hin:(q.fams.isEmpty||(q.fams.take q.fams.length).contains x.fam)=Vu q.fams x.fam:=by rw[List.take_length];rfl
   rw[hin];have hwn:q.whr=[]→UA (Z6 fs q) x=true:=fun e=>by rw[Nu (by simp[e])];rfl
   refine ax ?_;apply hK3;refine rg zs [3,4,5,7,8,10,11,12,14] ?_;refine Y0 rfl zs [3,4,5,7,8,10,11,12] [.m,.m,.q,.q,.q,.m,.q,.q,.m,.q,.q,.m,.q,.q,.q,.q,.q,.q,.q,.q] [0,1,2,3,4,5,6,7,8,9,10,11,12,13,14,15,16,17,18,19] [0,1,2,3,4,5,6,7,8,9,10,11,12,13,14,15,16,17,18,19] (by kernel_rfl) (fun _ _ _ _ _ h=>h) fun K V=> ?_
   try simp only[go_sem,seval,hszs,hags,hmos,hszq,hagq,hmoq,hszr,hagr,hmor,hcs,hca,hcm,f1,f2,f3,f4,b1,b2,b3,b4,b5,hnth,hnf,e1,e2,g1,g2,g3,g4,g5,YZ,YS,Yz,Yf,qg,qb,qd,Zt,List.drop_zero,Option.getD_some,Option.getD_none,Int.toNat_zero,Zf,Zj,Ze,Zx,bys,hszs,hags,hmos,hszq,hagq,hmoq,g1,g2,b2,hcs,hca,hcm,←List.map_take,Zt,qb,List.drop_zero,Option.getD_some,Option.getD_none,qd,Int.toNat_zero,Zj,Ze,Zx,bys]
   repeat (first | (refine And.intro ?_ ?_;· first | (intro _;exact Yg _) | (intro _ h9;rw[h9];rfl)) | refine peel ?_)
   apply V;clear V K;refine rk zs [3,4,5,7,8,10,11,89] fun K V=> ?_;refine YM func124 rfl rfl rfl (fun hg=>want_hold hw ?_ x hfa1 hfa2 _ _) ?_
   ·simp at hg;exact List.length_pos_iff.2 hg.2
   refine nz ?_;apply V;clear V K;refine Zb ?_ ?_<;>intro hb
   ·have hyes:Y8 q (Z6 fs q) x=true:=by unfold Y8;rw[XV];have h9:=hb;clear hb;cases h1:Vu q.fams x.fam<;>cases h2:UA (Z6 fs q) x<;>by_cases h3:q.whr=[]<;>simp_all
    refine dx1 zs [3,4,5,7,8,10] [.m,.q,.q,.q,.q,.q,.q,.q,.c,.q,.q,.q,.q,.q,.q,.q,.c,.q,.q,.w [],.q] [0,1,2,3,4,5,6,7,8,9,10,11,12,13,14,15,16,17,18,19,20] [0,1,2,3,4,5,6,7,8,9,10,11,12,13,14,15,16,17,18,19,20] fun K V=> ?_;refine cq func58 (fun _ n=>(Qt x.qual hcb1.1 _ _)) ?_;refine cq func58 (fun _ n=>(Qt x.value hcb1.2 _ _)) ?_;apply V;clear V K;refine ns ?_;refine ns ?_
    first
    | (rw [hsn, hyes, if_pos rfl]
       rw[List.take_of_length_le (show((ZI q (Z6 fs q) (r.cells.take i)).map Zj).length≤(ZI q (Z6 fs q) (r.cells.take i)).length by simp)];refine⟨ver+1,?_⟩;(repeat' apply And.intro)<;>first | rfl | (rw[qe];rfl) | ((try simp only[Rl]);(repeat first | rw[if_pos rfl] | rw[if_pos trivial] | rw[if_neg om]);first | done | exact b1 | exact b2 | exact b3 | exact b4 | exact b5 | (rw[qj];rfl)) | (intro k hk;refine ohx ?_;exact hlow k hk) | omega)
   have hnot:Y8 q (Z6 fs q) x=false:=by unfold Y8;rw[XV];have h9:=hb;clear hb;cases h1:Vu q.fams x.fam<;>cases h2:UA (Z6 fs q) x<;>by_cases h3:q.whr=[]<;>simp_all
   refine ak ?_;refine ns ?_
   first
   | (rw [hsn, hnot, if_neg osi, List.append_nil]
      refine⟨ver,?_⟩;(repeat' apply And.intro)<;>first | rfl | (rw[qe];rfl) | ((try simp only[Rl]);(repeat first | rw[if_pos rfl] | rw[if_pos trivial] | rw[if_neg om]);first | done | exact b1 | exact b2 | exact b3 | exact b4 | exact b5 | (rw[qj];rfl)) | (intro k hk;refine ohx ?_;exact hlow k hk) | omega)
  rintro T3 H3 n3 ⟨ver3,rfl,b1,b2,b3,b4,b5,hlow,hn3⟩;refine rg1 zs [3,4,5,7,8,10] ?_;exact⟨⟨i+1,ver3,om,rfl,rfl,hlow,hn3⟩,om⟩
 have hci:i=r.cells.length:=otf;refine ax ?_;apply hK1;refine rg zs [6] ?_;refine ar ?_;subst hci;rw[List.take_length]at b5 ⊢;exact⟨_,rfl,hlow,.osl b5 om osi (by rw[List.drop_zero,List.take_of_length_le osi];exact XM _ (Xq Zj (fun c=>⟨trivial,Xg _ _,trivial,Xg _ _,trivial⟩) _))⟩
end Go.Proofs.YtkmkbndcekklmaaGreatDoor