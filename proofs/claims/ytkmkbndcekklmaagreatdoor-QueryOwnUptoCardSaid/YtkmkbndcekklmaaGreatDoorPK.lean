/- Own layer: the walk through Run. Of the program; no condition. -/
import Derived.Test.YtkmkbndcekklmaaGreatDoorPJ
import Derived.Test.YtkmkbndcekklmaaGreatDoorPF
import Derived.Test.YtkmkbndcekklmaaGreatDoorPD
import Derived.Lib.LaidTab
import Derived.Test.YtkmkbndcekklmaaGreatDoorPE
import Derived.Test.YtkmkbndcekklmaaGreatDoorPH
set_option linter.unusedSimpArgs false
set_option linter.unusedVariables false
set_option maxRecDepth 10000
namespace Go.Proofs.YtkmkbndcekklmaaGreatDoor
open Go Go.Sx Go.Rt Go.Proofs Tryz
def YG (rows:List RowE):Prop:=rows.length≤1048576∧∀x∈rows,x.row.length≤1099511627776∧x.cells.length≤1048576∧∀c∈x.cells,c.qual.length≤1099511627776∧c.value.length≤1099511627776
theorem Vp (l:Option (List UInt8)) (g:Bool):strip g (Nz l)=Nz l:=by cases l<;>cases g<;>rfl
theorem parse_ok {fs:List Fml} {q:QryE} (h:qcE fs q=0) (h0:0<q.whr.length):∃x,WI fs q.whr= .ok x:=by
 unfold qcE at h
 by_cases h1:ZC fs≠0
 ·rw[if_pos h1]at h;exact absurd h h1
 rw[if_neg h1]at h
 by_cases h2:Ym fs.length q=false
 ·rw[if_pos h2]at h;exact absurd h odc
 rw[if_neg h2]at h
 by_cases h3:0<q.whr.length∧(Xa fs q.whr).2.1≠0
 ·rw[if_pos h3]at h;exact absurd h h3.2
 ·have h4:(Xa fs q.whr).2.1=0:=Classical.byContradiction fun e=>h3 ⟨h0,e⟩
  unfold Xa at h4
  rw[if_neg h1]at h4
  cases hp:WI fs q.whr with
  | ok x=>exact⟨x,rfl⟩
  | error a=>rw[hp]at h4;simp at h4
theorem testQ_none {fs:List Fml} {q:QryE} (h:¬0<q.whr.length):YE fs q=none:=by unfold YE;rw[if_pos om]
theorem testQ_some {fs:List Fml} {q:QryE} (h:0<q.whr.length) {x:Tst×List UInt8} (hx:WI fs q.whr= .ok x):YE fs q=some x.1:=by unfold YE;rw[if_neg om,hx]
def MI:Option AObj→Nat
 | some (.arr _ _ [.agg [_,_,.int _ m,_,_]])=>m.toNat
 | _=>0
theorem Q5 {rows:List RowE} {err:Int} {m kw vw lw kt vt lt:Nat}:MI (some (.arr 0 5 [UF rows err m kw vw lw kt vt lt]))=m:=by simp[MI,UF]
section
variable {rows:List RowE} {err:Int} {ks kw kt lo m:Nat} {kb:List (Nat×List UInt8)} {tk:List Nat} {H H':Heap} {n n':Nat}
theorem KJ.pan {p:AV} (h:KJ rows err ks kw kt lo m kb tk H n (.pan p) H' n'):False:=by
 obtain⟨_,_,h⟩:=h
 split at h
 ·obtain⟨k1,k2,v2,js,vw,vt,kb2,tels,tk2,e,_⟩:=h;cases e
 ·obtain⟨vw,vt,tels,e,_⟩:=h;cases e
theorem KJ.told {r:AV} (h:KJ rows err ks kw kt lo m kb tk H n (.val r) H' n') (hl:m<rows.length):∃k1 k2 v2 js vw vt kb2 tels tk2,r= .tup [.agg [.osl k1 2 0 (rows.getD m default).row.length,.osl k2 v2 0 (rows.getD m default).cells.length],.bool true,.int .i64 0]∧Own H' (.agg [.osl k1 2 0 (rows.getD m default).row.length,.osl k2 v2 0 (rows.getD m default).cells.length]) (Zg (rows.getD m default)) js∧(∀k∈js,n≤k∧k<n')∧SrcS rows err ks kw kt lo (m+1) vw vt kb2 tels tk2 H' n'∧(∀k∈tk2,k∈tk∨n≤k)∧tels.length≤m+1∧kb2.length≤kb.length+1+2*(rows.getD m default).cells.length:=by
 obtain⟨_,_,h⟩:=h
 rw[if_pos hl]at h
 obtain⟨k1,k2,v2,js,vw,vt,kb2,tels,tk2,e,h⟩:=h
 cases e
 exact⟨k1,k2,v2,js,vw,vt,kb2,tels,tk2,rfl,h⟩
theorem KJ.past {r:AV} (h:KJ rows err ks kw kt lo m kb tk H n (.val r) H' n') (hl:rows.length≤m):∃vw vt tels,r= .tup [.agg [.nilsl,.nilsl],.bool false,.int .i64 err]∧SrcS rows err ks kw kt lo (m+1) vw vt kb tels tk H' n'∧tels.length≤m+1:=by
 obtain⟨_,_,h⟩:=h
 rw[if_neg om]at h
 obtain⟨vw,vt,tels,e,h⟩:=h
 cases e
 exact⟨vw,vt,tels,rfl,h⟩
end
theorem Own.agg2 {H:Heap} {a b c d:AV} {ks:List Nat} (h:Own H (.agg [a,b]) (.agg [c,d]) ks):∃k1 k2,ks=k1++k2∧Own H a c k1∧Own H b d k2:=by
 cases h with
 | nk h=>exact h.elim
 | agg h=>
   cases h with
   | cons h1 h2=>
     cases h2 with
     | cons h3 h4=>cases h4 with | nil=>exact⟨_,_,osi,h1,h3⟩
theorem Own.osl_inv {H:Heap} {k v len e:Nat} {ys:List AV} {ks:List Nat} (h:Own H (.osl k v 0 len) (.sl e ys) ks):∃els js,ks=k::js∧H k=some (.arr v e els)∧len≤els.length∧OwnL H (els.take len) ys js:=by
 cases h with
 | osl h1 h2 h3=>exact⟨_,_,rfl,h1,h2,h3⟩
theorem own_cel_inv {H:Heap} {a:AV} {c:CelE} {ks:List Nat} (h:Own H a (Zp c) ks):∃b d,a= .agg [.int .i64 c.fam,b,.int .i64 c.ts,d]∧b.sz=1∧d.sz=1∧b.memOK=true∧d.memOK=true∧b.isAgg=false∧d.isAgg=false:=by
 generalize hb:Zp c=x at h
 cases h with
 | nk h=>subst hb;exact h.elim
 | nilsl=>cases hb
 | osl=>cases hb
 | tup=>cases hb
 | agg h=>
   cases hb
   cases h with
   | cons h1 h2=>cases h2 with | cons h3 h4=>cases h4 with | cons h5 h6=>cases h6 with | cons h7 h8=>cases h8 with | nil=>
     cases h1 with | nk _=>cases h5 with | nk _=>
     exact⟨_,_,rfl,h3.sl_sz.1,h7.sl_sz.1,h3.sl_sz.2.2,h7.sl_sz.2.2,h3.sl_sz.2.1,h7.sl_sz.2.1⟩
theorem own_row {H:Heap} {a b:AV} {r:RowE} {ks js:List Nat} (h1:Own H a (bys r.row) ks) (h2:Own H b (.sl 4 (r.cells.map Zp)) js):Own H (.agg [a,b]) (Zg r) (ks++js):=by
 have:=Own.agg (.cons h1 (.cons h2 .nil))
 simpa [Zg]using this
theorem drop_at2 {α:Type} [Inhabited α] (l:List α) {i:Nat} (h:i<l.length):l.drop i=l.getD i default::l.drop (i+1):=X4 l i h
theorem famsOut_take {nf:Nat} {l:List CelE} (h:∀j,j<l.length→bout (l.getD j default).fam 0 ((nf:Int)-1)=false):Ws nf l=false:=by
 unfold Ws
 rw[List.any_eq_false]
 intro c hc
 obtain⟨i,hi,he⟩:=List.mem_iff_getElem.1 hc
 have:=h i hi
 rw[List.getD,List.getElem?_eq_getElem hi]at this
 simp only[Option.getD_some,he]at this
 simp[this]
theorem famsOut_at {nf:Nat} {l:List CelE} {i:Nat} (hi:i<l.length) (h:bout (l.getD i default).fam 0 ((nf:Int)-1)=true):Ws nf l=true:=by
 unfold Ws
 rw[List.any_eq_true]
 exact⟨_,YI l hi,h⟩
theorem NC40.eqs {P Q:Prop} (g:Imp P Q:=by(try simp only[go_sem,seval,hszs,hags,hmos,hszq,hagq,hmoq,x1,x2,x3,x4,x5,y1,y2,y3,y4,y5,y6,y7,f1,f2,f3,f4,f5,f6,b1,b2,b3,b6,b9,hrw,hE8,hce,c1,c2,c3,c4,c5,c6,g5,g6,hx1,hs,hql,z1,z3,hs2,z4,z6,hs3,z7,z9,Ke,YY,Vp,Y1,Y2,Y3,Yu,Nat.add_assoc,List.length_map,Int.toNat_natCast,Uc,qaX]);exact Imp.rf):Imp P Q:=g
theorem NC40.sd {P:Prop} (g:P:=by first | (intro _ h9;rw[h9];rfl) | exact⟨rfl,by(simp[AV.sz,AV.szs,AV.memOK,z1,z3,z4,z6];first | done | fail)⟩ | exact⟨Nat.le_refl _,.inr trivial,om,om⟩ | fail):P:=g
set_option maxRecDepth 100000 in
set_option maxHeartbeats 12800000 in
open NC40 NZ in
theorem x_query_Run (fs : List Fml) (hfs : fs.length ≤ 1048576) (q : QryE) (hqf : q.fine) (clock : Int) (rows : List RowE) (err : Int) (hrw : YG rows) {kq : List Nat} {f t m0 p k : AV} (ks kw kt lo vw0 vt0 : Nat) {H : Heap} {n : Nat} (hG : GOK 1 1 H n)
   (hQ:QL kq H q f t m0 p k) (hkq:∀j∈kq,j<n∧j≠ks∧j≠kw∧j≠kt) (hS:SrcS rows err ks kw kt lo 0 vw0 vt0 [] [] [] H n):
   Zk prog 18 [Zi fs,qaX q f t m0 p k,.int .i64 clock,.iface 52 (.loc ks 0 0 0 [])] H n (RunK rows err ks kw kt lo (runE fs q clock (some (rows,err))) H n):=by
 obtain⟨hrl,hrb⟩:=hrw
 obtain⟨d1,d2,d3,d4,d5,d6,d7⟩:=hS.d
 have hgk:1≠ks∧1≠kw∧1≠kt∨(1:Nat)=1:=by
   by_cases hne:(1:Nat)=1
   ·exact .inr hne
   ·left
    have V:=hG.kindsC hne
    exact kbV
 have hgt:1≠ks∧1≠kw∧1≠kt:=by
   have V:=hG.table
   exact kbV
 have hGc:∀(Hc:Heap) (nc:Nat),(∀k,k<n→k≠ks→k≠kw→k≠kt→Hc k=H k)→n≤nc→GOK 1 1 Hc nc:=fun Hc nc hc hn=>hG.at2 (by
   rcases hgk with h | h
   ·exact hc _ hG.gek h.1 h.2.1 h.2.2
   ·rw[h];exact hc _ hG.get hgt.1 hgt.2.1 hgt.2.2) (hc _ hG.get hgt.1 hgt.2.1 hgt.2.2) hn
 have hQc:∀(Hc:Heap),(∀k,k<n→k≠ks→k≠kw→k≠kt→Hc k=H k)→QL kq Hc q f t m0 p k:=fun Hc hc=>hQ.on fun j hj=>by have:=hkq j hj;exact hc j this.1 this.2.1 this.2.2.1 this.2.2.2
 have hszs:(Zi fs).sz=1:=rfl
 have hags:(Zi fs).isAgg=true:=rfl
 have hmos:(Zi fs).memOK=true:=rfl
 have hszq:(qaX q f t m0 p k).sz=10:=hQ.sz
 have hagq:(qaX q f t m0 p k).isAgg=true:=rfl
 have hmoq:(qaX q f t m0 p k).memOK=true:=rfl
 obtain⟨z,hz⟩:∃z,z=runE fs q clock (some (rows,err)):=⟨_,rfl⟩
 rw[←hz]
 unfold runE at hz
 have x1:=hQ.f.sz
 have x2:=hQ.t.sz
 have x3:=hQ.m.sz
 have x4:=hQ.p.sz
 have x5:=hQ.k.sz
 have y1:=hQ.f.st
 have y2:=hQ.t.st
 have y3:=hQ.t.len
 have y4:=hQ.f.ag
 have y5:=hQ.t.ag
 have y6:=hQ.f.mo
 have y7:=hQ.t.mo
 have f1:(n=n+1)=False:=osi
 have f2:(n+1=n+2)=False:=osi
 have f3:(n+1=n)=False:=osi
 have f4:(n=n+2)=False:=osi
 have f5:(n+2=n+1)=False:=osi
 have f6:(n+2=n)=False:=osi
 have b1:=d7
 have b2:=d7
 have b3:=d7
 have b6:=d7
 have b9:=d7
 have hrw:=d7
 have hE8:=d7
 have hce:=d7
 have c1:=d7
 have c2:=d7
 have c3:=d7
 have c4:=d7
 have c5:=d7
 have c6:=d7
 have g5:=d7
 have g6:=d7
 have hx1:=d7
 have hs:=d7
 have hql:=d7
 have z1:=d7
 have z3:=d7
 have hs2:=d7
 have z4:=d7
 have z6:=d7
 have hs3:=d7
 have z7:=d7
 have z9:=d7
 refine fw func18 ntmps18 results18 ?_
 refine rg zs [2,3,4,5,8] ?_
 refine Za fun K1 hK1=> ?_
 refine rk zs [2,3,4,5,8,10] fun K V=> ?_
 refine ck func34 ((l_query_Check fs hfs hqf (hGc _ _ (fun k h1 h2 h3 h4=>oh) om) (hQc _ (fun k h1 h2 h3 h4=>oh)))) ?_
 apply V;clear V K
 refine rg zs [2,3,4,5,8,10,30] ?_
 refine Zb ?_ ?_<;>intro hb
 ·have hc0:qcE fs q≠0:=osb
  rw[if_pos hc0]at hz
  refine rg zs [8,9] ?_
  refine ar ?_
  first
  | (refine RunK.none hz om (fun k h1 h2 h3 h4 => ?_) (hS.on (fun k hk => ?_) om) osi (fun k hk => by cases hk)
     ·exact oh
     ·have h9:k<n:=by(rcases hk with rfl | rfl | rfl | hk;omega;omega;omega;cases hk)
      (try simp only[Pv]);(repeat first | rw[if_pos rfl] | rw[if_pos trivial] | rw[if_neg om]))
 have hc0:qcE fs q=0:=osb
 rw[if_neg (by simp[hc0])]at hz
 refine ak ?_
 apply hK1
 refine rk zs [3,4,5,8,11,12] fun K V=> ?_
 refine ck func36 ((l_query_At hqf clock (hGc _ _ (fun k h1 h2 h3 h4=>oh) om) (hQc _ (fun k h1 h2 h3 h4=>oh)))) ?_
 apply V;clear V K
 refine Za fun K2 hK2=> ?_
 refine rg zs [3,4,5,8,11,44] ?_
 refine Zb ?_ ?_<;>intro hb
 ·have ha0:(atE q clock).2≠0:=osb
  rw[if_pos ha0]at hz
  refine rg zs [8,9] ?_
  refine ar ?_
  first
  | (refine RunK.none hz om (fun k h1 h2 h3 h4 => ?_) (hS.on (fun k hk => ?_) om) osi (fun k hk => by cases hk)
     ·exact oh
     ·have h9:k<n:=by(rcases hk with rfl | rfl | rfl | hk;omega;omega;omega;cases hk)
      (try simp only[Pv]);(repeat first | rw[if_pos rfl] | rw[if_pos trivial] | rw[if_neg om]))
 have ha0:¬(atE q clock).2≠0:=osb
 rw[if_neg ha0]at hz
 refine ak ?_
 apply hK2
 refine rg zs [3,4,5,8,11,13] ?_
 refine ZO (fun H' n'=>H' n=some (.arr 0 1 [Zi fs])∧H' (n+1)=some (.arr 0 10 [qaX q f t m0 p k])∧H' (n+2)=some (.arr 0 3 [.agg [.nilsl,.nilsl,.bool false]])∧(∀k,k<n→H' k=H k)∧n'=n+3) ⟨ohr,ohr,oh,fun k hk=>oh,rfl⟩ fun Hb nb ⟨b1,b2,b3,b4,b5⟩=> ?_
 subst b5
 refine Z6 [3,4,5,8,11,13] (fun T' H' n'=>T'=tl [(3,.iface 52 (.loc ks 0 0 0 [])),(4,.loc n 0 0 0 []),(5,.loc (n+1) 0 0 0 []),(8,.loc (n+2) 0 0 0 []),(11,.int .i64 (atE q clock).1),(13,Ud (YE fs q))]∧H'=Hb∧n'=n+3) ?_ ?_
 ·refine rg zs [3,4,5,8,11,13,49] ?_
  refine Zb ?_ ?_<;>intro hb
  ·have hw0:0<q.whr.length:=ott
   obtain⟨px,hpx⟩:=parse_ok hc0 hw0
   have hT:=testQ_some hw0 hpx
   refine rc1 zs [3,4,5,8,11,13] func51 ((hpx▸Uu fs hfs q.whr _ _)) ?_
   refine ns ?_
   rw[hT];first | done | rfl | exact⟨rfl,rfl,rfl⟩ | exact⟨rfl,rfl⟩
  have hT:=testQ_none (fs:=fs) (q:=q) (fun h=>otf)
  refine ak ?_
  refine ns ?_
  rw[hT];first | done | rfl | exact⟨rfl,rfl,rfl⟩ | exact⟨rfl,rfl⟩
 rintro T9 H9 n9 ⟨rfl,rfl,rfl⟩
 refine rk zs [3,4,5,8,11,13,14,15] fun K V=> ?_
 refine ck func24 ((JE hqf (hGc _ _ (fun k h1 _ _ _=>b4 k h1) om) (hQc _ (fun k h1 _ _ _=>b4 k h1)))) ?_
 apply V;clear V K
 refine rg zs [3,4,5,8,11,13,14,15,17] ?_
 refine rg zs [3,4,5,8,11,13,14,15,17,18] ?_
 refine Zq ?_
 refine Yr (n+3) 2 (ver:=0) (e:=3) (els:=[.agg [.nilsl,.nilsl,.bool false]]) (els':=[.agg [.osl (n+4) 0 0 0,.nilsl,.bool false]]) oh ⟨Adp.agg ⟨Adp.nilsl _,.refl _ _,.refl _ _,trivial⟩,trivial⟩ ?_
 refine ZO (fun H' n'=>RnS fs (qaX q f t m0 p k) rows err ks kw kt lo 0 n [] 0 [] [] vw0 vt0 [] [] [] H H' n') ?_ fun H6 n6 hR=> ?_
 ·refine⟨?_,?_,?_,?_,?_,Pile.nil _ _ _,hS.on (fun k hk=> ?_) om,fun k hk=>(by cases hk),fun k h1 h2 h3 h4=> ?_,om,osi⟩
  ·refine ohx ?_;exact b1
  ·refine ohx ?_;exact b2
  ·refine ohx ?_;exact b3
  ·refine ohx ?_;rfl
  ·exact oh
  ·have h9:k<n:=by(rcases hk with rfl | rfl | rfl | hk;omega;omega;omega;cases hk)
   refine ohx ?_;exact b4 k h9
  ·refine ohx ?_;exact b4 k h1
 refine Zo (fun T' H' n'=>∃(m:Nat) (last:Option (List UInt8)) (acc:List RowE) (ver:Nat) (els:List AV) (pk:List Nat) (vw vt:Nat) (kb:List (Nat×List UInt8)) (tels:List AV) (tk:List Nat),m≤rows.length∧T'=tl [(3,.iface 52 (.loc ks 0 0 0 [])),(4,.loc n 0 0 0 []),(5,.loc (n+1) 0 0 0 []),(8,.loc (n+2) 0 0 0 []),(11,.int .i64 (atE q clock).1),(13,Ud (YE fs q)),(14,bys (Zv q).1),(15,.bool (Zv q).2.1),(17,.loc (n+3) 0 0 0 []),(18,Nz last)]∧RnS fs (qaX q f t m0 p k) rows err ks kw kt lo m n acc ver els pk vw vt kb tels tk H H' n'∧(∀l,last=some l→l≠[])∧runG fs.length q (YE fs q) (tokB q (atE q clock).1) (Zv q).1 (Zv q).2.1 err m last acc (rows.drop m)=z) (fun _ H' _=>rows.length-MI (H' ks)) ?_ ?_
 ·exact⟨0,none,[],0,[],[],vw0,vt0,[],[],[],Nat.zero_le _,rfl,hR,fun l h=>(by cases h),by rw[hz,List.drop_zero]⟩
 rintro T1 H1 n1 ⟨m,last,acc,ver,els,pk,vw,vt,kb,tels,tk,hm,rfl,hR,hlast,hzz⟩
 have hb8:=hR.b
 have hlt8:=hR.lt
 have hask:MI (H1 ks)=m:=by rw[hR.src.ho];exact Q5
 obtain⟨Hh,hHh⟩:∃h,h=H1:=⟨_,rfl⟩
 subst hHh
 obtain⟨nh,hnh⟩:∃h,h=n1:=⟨_,rfl⟩
 subst hnh
 refine Zq ?_
 rcases Nat.lt_or_ge m rows.length with hlt | hge
 ·refine Me zs [3,4,5,8,11,13,14,15,17,18,19,20,21] 1 rfl (by first | trivial | (show _<_;decide)) fun K V=> ?_
  refine nz ?_
  refine nz ?_
  refine callI_use UV func187 rfl rfl (J4 rows err hrl hrb ks kw kt lo m vw vt kb tels tk _ _ hR.src om om om) ?_ ?_
  ·intro p H' n' hc;exact hc.pan.elim
  intro rr H2 n2 hc
  have hn2:=hc.1
  first
  | (obtain ⟨k1, k2, v2, js, vw2, vt2, kb2, tels2, tk2, rfl, ho, hjs, hs2, htk2, hb1, hb2⟩ := hc.told hlt
     have hR2:=hR.next hc.1 hc.2.1 hs2 htk2 hb1 (by have:=(hrb _ (YI rows hlt)).2.1;omega)
     have hdr:=drop_at2 rows hlt
     have hrx:=hrb _ (YI rows hlt)
     generalize rows.getD m default=x at *)
  refine nz ?_
  apply V;clear V K
  refine bk fun K3 hK3=> ?_
  first
  | (refine ZO (fun H' n' => RnS fs (qaX q f t m0 p k) rows err ks kw kt lo (m + 1) n acc ver els pk vw2 vt2 kb2 tels2 tk2 H H' n' ∧ H' n2 = some (.arr 0 2 [.agg [.osl k1 2 0 x.row.length, .osl k2 v2 0 x.cells.length]]) ∧ Own H' (.agg [.osl k1 2 0 x.row.length, .osl k2 v2 0 x.cells.length]) (Zg x) js ∧ n' = n2 + 1) ⟨hR2.on (fun k hk => Pw _ _ om) om, Px _ _ _, ho.frame (fun k hk => Pw _ _ (by have := hjs k hk; omega)), rfl⟩ fun H7 n7 ⟨hR7, hrw, ho7, hn7⟩ => ?_
     rw[hdr]at hzz;unfold runG at hzz)
  have b1:=hR7.hs
  have b2:=hR7.hq
  have b3:=hR7.hz
  have b6:=hR7.hp
  have b9:=hR7.hl
  refine rg zs [3,4,5,8,11,13,14,15,17,18,19,20,21,71] ?_
  refine Zb ?_ ?_<;>intro hb
  ·exact absurd hb osi
  refine rg zs [3,4,5,8,11,13,14,15,17,18,19,76] ?_
  refine Zb ?_ ?_<;>intro hb
  ·exact absurd hb osi
  obtain⟨j1,j2,hjj,o1,o2⟩:=Own.agg2 ho7
  obtain⟨els2,js3,hj3,hE,hl2,hL2⟩:=Own.osl_inv o2
  have hj1:∀j∈j1,j<n7:=fun j hj=>by have:=hjs j (by rw[hjj];simp[hj]);omega
  have hj2:∀j∈j2,j<n7:=fun j hj=>by have:=hjs j (by rw[hjj];simp[hj]);omega
  have hk2:k2<n7:=hj2 k2 (by rw[hj3];simp)
  have hra:=o1.lsl
  have hca:=o2.lsl
  have hQ7:=hQc H7 hR7.low
  refine rc zs [3,4,5,8,11,13,14,15,17,19,81] func52 ((Mo hQ7 hra last hlast (Zv q).1 (Zv q).2.1 _)) ?_
  refine Zb ?_ ?_<;>intro hb
  ·have hfo:YR q x.row last (Zv q).1 (Zv q).2.1=false:=osb
   rw[if_pos hfo]at hzz
   refine rg zs [8,9] ?_
   refine ar ?_
   refine hR7.none hzz.symm om (fun k h1 h2=> ?_);exact oh
  have hfo:YR q x.row last (Zv q).1 (Zv q).2.1=true:=osb
  rw[if_neg (by simp[hfo])]at hzz
  have h256:x.row.length≠0∧x.row.length≤256:=by unfold YR at hfo;by_cases h9:x.row.length=0∨256<x.row.length;(rw[if_pos h9]at hfo;cases hfo);omega
  refine ak ?_
  apply hK3
  refine Za fun K4 hK4=> ?_
  refine rg zs [3,4,5,8,11,13,14,15,17,19,92,93,94] ?_
  refine Zq ?_
  refine Zo (fun T' H' n'=>∃i:Nat,i≤x.cells.length∧(∀j,j<i→bout (x.cells.getD j default).fam 0 ((fs.length:Int)-1)=false)∧T'=tl [(3,.iface 52 (.loc ks 0 0 0 [])),(4,.loc n 0 0 0 []),(5,.loc (n+1) 0 0 0 []),(8,.loc (n+2) 0 0 0 []),(11,.int .i64 (atE q clock).1),(13,Ud (YE fs q)),(14,bys (Zv q).1),(15,.bool (Zv q).2.1),(17,.loc (n+3) 0 0 0 []),(19,.loc n2 0 0 0 []),(92,.osl k2 v2 0 x.cells.length),(93,.int .i64 x.cells.length),(94,.int .i64 i)]∧(∀k,k<n7→H' k=H7 k)∧n7≤n') (fun T' _ _=>x.cells.length-iv (T' 94)) ?_ ?_
  ·exact⟨0,Nat.zero_le _,fun j h=>om,rfl,fun _ _=>rfl,Nat.le_refl _⟩
  rintro T1 H1 n1 ⟨i,hi,hfa,rfl,hH8,hn8⟩
  have hR8:=hR7.on hH8 hn8
  have b1:=hR8.hs
  have b2:=hR8.hq
  have b3:=hR8.hz
  have b6:=hR8.hp
  have hrw:=(hH8 n2 om).trans hrw
  have hE8:=(hH8 k2 hk2).trans hE
  refine Ze zs [3,4,5,8,11,13,14,15,17,19,92,93,94,95] fun K V=> ?_
  try simp only[go_sem,seval,hszs,hags,hmos,hszq,hagq,hmoq,x1,x2,x3,x4,x5,y1,y2,y3,y4,y5,y6,y7,f1,f2,f3,f4,f5,f6,b1,b2,b3,b6,b9,hrw,hE8,hce,c1,c2,c3,c4,c5,c6,g5,g6,hx1,hs,hql,z1,z3,hs2,z4,z6,hs3,z7,z9,Ke,YY,Vp,Y1,Y2,Y3,Yu,Nat.add_assoc,List.length_map,Int.toNat_natCast,Uc,qaX,Zi,Y8]
  repeat refine peel ?_
  apply V;clear V K
  refine Za fun K5 hK5=> ?_
  refine Zb ?_ ?_<;>intro hb
  ·have hci:i<x.cells.length:=ott
   obtain⟨_,_,_,_,_,hcn,_⟩:=OwnL.nth hL2 (i:=i) (by rw[List.length_take];omega)
   have hnt:nth (els2.take x.cells.length) i=nth els2 i:=by simp[nth,List.getD,hci]
   rw[hnt,Zw Zp x.cells i hci]at hcn
   obtain⟨cb,cd,hce,c1,c2,c3,c4,c5,c6⟩:=own_cel_inv hcn
   have g5:(n=n1)=False:=oz
   have g6:(n+2=n1)=False:=oz
   have hx1:IntKind.i64.wrap ((i:Int)+1)=((i+1:Nat):Int):=w1 om
   refine ak ?_
   apply hK5
   refine bk fun K6 hK6=> ?_
   refine rg zs [3,4,5,8,11,13,14,15,17,19,23,92,93,94] ?_
   refine Ze zs [3,4,5,8,11,13,14,15,17,19,92,93,94,108] fun K V=> ?_
   try simp only[go_sem,seval,hszs,hags,hmos,hszq,hagq,hmoq,x1,x2,x3,x4,x5,y1,y2,y3,y4,y5,y6,y7,f1,f2,f3,f4,f5,f6,b1,b2,b3,b6,b9,hrw,hE8,hce,c1,c2,c3,c4,c5,c6,g5,g6,hx1,hs,hql,z1,z3,hs2,z4,z6,hs3,z7,z9,Ke,YY,Vp,Y1,Y2,Y3,Yu,Nat.add_assoc,List.length_map,Int.toNat_natCast,Uc,qaX,hszs,hags,hmos,g5,b1,Zi,List.length_map,c1,c2,c3,c4,c5,c6]
   repeat refine peel ?_
   apply V;clear V K
   refine Zb ?_ ?_<;>intro hb
   ·have hfo1:Ws fs.length x.cells=true:=famsOut_at hci (by unfold bout;have h9:=hb;simp at h9 ⊢;omega)
    rw[if_pos hfo1]at hzz
    refine rg zs [8,9] ?_
    refine ar ?_
    refine hR8.none hzz.symm om (fun k h1 h2=> ?_);exact oh
   have hfo1:bout (x.cells.getD i default).fam 0 ((fs.length:Int)-1)=false:=by unfold bout;have h9:=hb;simp at h9 ⊢;omega
   refine ak ?_
   apply hK6
   refine rg1 zs [3,4,5,8,11,13,14,15,17,19,92,93,94] ?_
   exact⟨⟨i+1,om,fun j hj=>(by rcases Nat.lt_or_ge j i with h | h;exact hfa j h;rw[show j=i by omega];exact hfo1),rfl,fun k hk=>ohx (hH8 k hk),by omega⟩,by omega⟩
  have hci:i=x.cells.length:=otf
  subst hci
  have hfn:=famsOut_take hfa
  rw[if_neg (by rw[hfn];simp)]at hzz
  have hQ8:=hQc H1 hR8.low
  have hra8:=hra.on fun j hj=>hH8 j (hj1 j hj)
  have hca8:=hca.on fun j hj=>hH8 j (hj2 j hj)
  refine ax ?_
  apply hK4
  refine rk zs [3,4,5,8,11,13,14,15,17,18,19] fun K V=> ?_
  refine ck func53 ((OAns.fin (Nw hra8 om _))) ?_
  apply V;clear V K
  refine rk zs [3,4,5,8,11,13,14,15,17,18,19,24] fun K V=> ?_
  refine cg func54 (fun _=>(Qh hra8 hQ8.t _)) ?_
  refine cg func54 (fun _=>(Qh hra8 hQ8.f _)) ?_
  apply V;clear V K
  refine Za fun K7 hK7=> ?_
  refine rg zs [3,4,5,8,11,13,14,15,17,18,19,143] ?_
  refine Zb ?_ ?_<;>intro hb
  ·have hbe:Wx q x.row=true:=by unfold Wx;have h9:=hb;simp at h9 ⊢;grind
   rw[if_pos hbe]at hzz
   refine rg zs [8,17] ?_
   refine rg zs [8,9] ?_
   refine ar ?_
   refine hR8.done (tok:=[]) (b:= .nilsl) (js:=[]) hzz.symm om (fun k h1 h2 h3=> ?_) .nilsl List.nodup_nil (fun k hk=>by cases hk);exact oh
  have hbe:Wx q x.row=false:=by unfold Wx;have h9:=hb;simp at h9 ⊢;grind
  rw[if_neg (by simp[hbe])]at hzz
  refine ak ?_
  apply hK7
  refine rk zs [3,4,5,8,11,13,14,15,17,18,25] fun K V=> ?_
  refine cK func55 (Mm hQ8 hqf.fams (YE fs q) hca8 hrx.2.1 hrx.2.2 _) ?_ ?_
  ·intro p H' n' hc;exact hc.pan.elim
  intro rr H9 n9 hc
  obtain⟨cj,hM⟩:=hc.got
  have hn9:=hM.nn
  have hs:=fun g=>hM.own.strip g
  have hql:=hM.own.qLen prog 94
  rw[List.length_map]at hql
  obtain⟨z1,z2,z3⟩:=hM.own.sl_sz
  have hR9:=hR8.on hM.low hM.nn
  refine nz ?_
  apply V;clear V K
  refine Za fun K8 hK8=> ?_
  refine rg zs [3,4,5,8,11,13,14,15,17,18,25,153] ?_
  refine Zb ?_ ?_<;>intro hb
  ·have hch:Yk q (YE fs q) x.cells=[]:=osb
   rw[if_pos hch]at hzz
   refine Yl [3,4,5,8,11,13,14,15,17,18] ?_
   simp only[go_sem,seval]
   refine ax ?_
   first
   | (refine ⟨⟨m + 1, some x.row, acc, ver, els, pk, vw2, vt2, kb2, tels2, tk2, om, rfl, hR9, fun l hl => ?_, hzz⟩, ?_⟩
      ·cases hl;intro e;exact h256.1 (by rw[e];rfl)
      ·rw[hask,hR9.src.ho,Q5];omega)
  have hch:¬Yk q (YE fs q) x.cells=[]:=osb
  rw[if_neg hch]at hzz
  refine ak ?_
  apply hK8
  have b6:=hR9.hp
  refine dx zs [3,4,5,8,11,13,14,15,17,18] [.q,.q,.m,.w [0,1],.m,.q,.q,.w [],.q,.w []] [0,1,2,4,3,5,6,7,8,9] [0,1,2,4,3,5,6,7,8,9] fun K V=> ?_
  refine cK func53 (YV x.row om _ _) ?_ ?_
  ·intro p H' n' hc;exact hc.pan.elim
  intro r2 H10 n10 hc
  obtain⟨dj,hM2⟩:=hc.got
  have hs2:=fun g=>hM2.own.strip g
  obtain⟨z4,z5,z6⟩:=hM2.own.sl_sz
  have hR10:=hR9.on hM2.low hM2.nn
  have b6:=hR10.hp
  have b9:=hR10.hl
  refine nz ?_
  apply V;clear V K
  rw[List.take_of_length_le (Nat.le_refl els.length)]
  have hn10:=hM2.nn
  have hlen:(els++[AV.agg [r2,rr]]).length=els.length+1:=osi
  have hal:acc.length=els.length:=by have:=hR.pile.own.len;simpa using this.symm
  refine ZO (fun H' n'=>RnS fs (qaX q f t m0 p k) rows err ks kw kt lo (m+1) n (acc++[⟨x.row,Yk q (YE fs q) x.cells⟩]) (ver+1) (els++[.agg [r2,rr]]) (pk++(dj++cj)) vw2 vt2 kb2 tels2 tk2 H H' n') (hR8.add om om (fun k h1 h2 h3=> ?_) (Px _ _ _) ?_ (own_row (r:=⟨x.row,Yk q (YE fs q) x.cells⟩) (hM2.own.frame fun k hk=> ?_) (hM.own.frame fun k hk=> ?_)) (List.nodup_append.2 ⟨hM2.nd,hM.nd,fun a ha b hb e=>by have:=hM2.lo a ha;have:=hM.lo b hb;omega⟩) (fun k hk=> ?_)) fun H11 n11 hR11=> ?_
  ·refine ohx ?_;rw[hM2.low k om,hM.low k om]
  ·exact oh
  ·have:=hM2.lo k hk;(try simp only[Pv]);(repeat first | rw[if_pos rfl] | rw[if_pos trivial] | rw[if_neg om])
  ·have:=hM.lo k hk;refine ohx ?_;exact hM2.low k om
  ·rcases List.mem_append.1 hk with h | h;(have:=hM2.lo k h;omega);(have:=hM.lo k h;omega)
  have b2:=hR11.hq
  have b3:=hR11.hz
  have b6:=hR11.hp
  rw[hlen]at b6
  refine rg zs [3,4,5,8,11,13,14,15,17,18,168] ?_
  refine Zb ?_ ?_<;>intro hb
  ·have hrn:((acc.length+1:Nat):Int)=q.rows:=by rw[hal];simpa using hb
   rw[if_pos hrn]at hzz
   refine rk zs [8,17] fun K V=> ?_
   refine cK func56 (Nu hqf (hGc H11 n11 hR11.low (by have:=hR11.lt;omega)) (hQc H11 hR11.low) (atE q clock).1 x.row h256.2) ?_ ?_
   ·intro p H' n' hc;exact hc.pan.elim
   intro r3 H12 n12 hc
   obtain⟨ej,hM3⟩:=hc.got
   have hs3:=fun g=>hM3.own.strip g
   obtain⟨z7,z8,z9⟩:=hM3.own.sl_sz
   have hR12:=hR11.on hM3.low hM3.nn
   have hn12:=hM3.nn
   have hlt11:=hR11.lt
   have b3:=hR12.hz
   have b6:=hR12.hp
   rw[hlen]at b6
   refine nz ?_
   apply V;clear V K
   refine rg zs [8,9] ?_
   refine ar ?_
   first
   | (rw [← hlen]
      refine hR11.done (tok:=tokB q (atE q clock).1 x.row) hzz.symm om (fun k h1 h2 h3=> ?_) (hM3.own.frame fun k hk=> ?_) hM3.nd (fun k hk=>hM3.lo k hk)
      ·refine ohx ?_;exact hM3.low k om
      ·have:=hM3.lo k hk;exact oh)
  have hrn:¬((acc.length+1:Nat):Int)=q.rows:=by rw[hal];simpa using hb
  rw[if_neg hrn]at hzz
  refine Yl [3,4,5,8,11,13,14,15,17,18] ?_
  simp only[go_sem,seval]
  refine ak ?_
  first
  | (refine ⟨⟨m + 1, some x.row, _, _, _, _, vw2, vt2, kb2, tels2, tk2, om, rfl, hR11, fun l hl => ?_, hzz⟩, ?_⟩
     ·cases hl;intro e;exact h256.1 (by rw[e];rfl)
     ·rw[hask,hR11.src.ho,Q5];omega)
 ·refine Me zs [3,4,5,8,11,13,14,15,17,18,19,20,21] 1 rfl (by first | trivial | (show _<_;decide)) fun K V=> ?_
  refine nz ?_
  refine nz ?_
  refine callI_use UV func187 rfl rfl (J4 rows err hrl hrb ks kw kt lo m vw vt kb tels tk _ _ hR.src om om om) ?_ ?_
  ·intro p H' n' hc;exact hc.pan.elim
  intro rr H2 n2 hc
  have hn2:=hc.1
  first
  | (obtain ⟨vw2, vt2, tels2, rfl, hs2, hb1⟩ := hc.past hge
     have hR2:=hR.next hc.1 hc.2.1 hs2 (fun k hk=> .inl hk) hb1 om)
  refine nz ?_
  apply V;clear V K
  refine bk fun K3 hK3=> ?_
  first
  | (refine ZO (fun H' n' => RnS fs (qaX q f t m0 p k) rows err ks kw kt lo (m + 1) n acc ver els pk vw2 vt2 kb tels2 tk H H' n' ∧ n' = n2 + 1) ⟨hR2.on (fun k hk => Pw _ _ om) om, rfl⟩ fun H7 n7 ⟨hR7, hn7⟩ => ?_
     rw[List.drop_eq_nil_of_le hge]at hzz;unfold runG at hzz)
  have b1:=hR7.hs
  have b2:=hR7.hq
  have b3:=hR7.hz
  have b6:=hR7.hp
  have b9:=hR7.hl
  refine rg zs [3,4,5,8,11,13,14,15,17,18,19,20,21,71] ?_
  refine Zb ?_ ?_<;>intro hb
  ·have he0:err≠0:=osb
   rw[if_pos he0]at hzz
   refine rg zs [8,9] ?_
   refine ar ?_
   refine hR7.none hzz.symm om (fun k h1 h2=> ?_);exact oh
  have he0:¬err≠0:=osb
  rw[if_neg he0]at hzz
  refine rg zs [3,4,5,8,11,13,14,15,17,18,19,76] ?_
  refine Zb ?_ ?_<;>intro hb
  ·refine rg zs [8,17] ?_
   refine rg zs [8,9] ?_
   refine ar ?_
   refine hR7.done (tok:=[]) (b:= .nilsl) (js:=[]) hzz.symm om (fun k h1 h2 h3=> ?_) .nilsl List.nodup_nil (fun k hk=>by cases hk);exact oh
  exact absurd hb osi
end Go.Proofs.YtkmkbndcekklmaaGreatDoor
set_option maxRecDepth 10000
namespace Go.Proofs.YtkmkbndcekklmaaGreatDoor
open Go Go.Sx Go.Rt Go.Proofs Go.ChangeShapes Go.WideShapes Go.ChangeAt Go.RowKit Tryz
theorem sInts_av2 {a:AV} {m:Nat} (h:SInts a m):∃l:List Int,a=Zx l∧l.length+1≤m:=by
 obtain⟨l,h1,h2,_⟩:=J8 (f:=fun x=>AV.int .i64 x) (q:=fun _=>0) (fun a m ⟨n,h1,h2,h3⟩=>⟨n,h1,Nat.zero_le _,om⟩) h
 exact⟨l,h1,h2⟩
theorem sQry_av2 {a:AV} {m:Nat} (h:SQry a m):∃x:QryE,a=Zf x∧x.frm.length≤m∧x.to.length≤m∧x.fams.length≤m∧x.pre.length≤m∧x.whr.length≤m∧x.token.length≤m∧(Lit.int .i64 x.time).wf=true:=by
 obtain⟨xs,rfl,hx,rfl⟩:=h
 obtain⟨x0,xs,rfl,h0,hx⟩:=ZE hx
 obtain⟨x1,xs,rfl,h1,hx⟩:=ZE hx
 obtain⟨x2,xs,rfl,h2,hx⟩:=ZE hx
 obtain⟨x3,xs,rfl,h3,hx⟩:=ZE hx
 obtain⟨x4,xs,rfl,h4,hx⟩:=ZE hx
 obtain⟨x5,xs,rfl,h5,hx⟩:=ZE hx
 obtain⟨x6,xs,rfl,h6,hx⟩:=ZE hx
 obtain⟨x7,xs,rfl,h7,hx⟩:=ZE hx
 obtain⟨x8,xs,rfl,h8,hx⟩:=ZE hx
 obtain⟨x9,xs,rfl,h9,hx⟩:=ZE hx
 obtain rfl:=Q6 hx
 obtain⟨n0,e0,l0⟩:=WY h0
 obtain⟨n1,e1,l1⟩:=WY h1
 obtain⟨n2,e2,l2⟩:=sInts_av2 h2
 obtain⟨n3,e3,l3⟩:=WY h3
 obtain⟨n4,e4,w4,_⟩:=h4
 obtain⟨n5,e5,_,_⟩:=h5
 obtain⟨n6,e6,_,_⟩:=h6
 obtain⟨n7,e7,_⟩:=h7
 obtain⟨n8,e8,l8⟩:=h8
 obtain⟨n9,e9,l9⟩:=WY h9
 refine⟨⟨n0,n1,n2,n3,n4,n5,n6,n7,n8,n9⟩,by simp[Zf,e0,e1,e2,e3,e4,e5,e6,e7,e8,e9],?_⟩
 simp only[List.map_cons,List.map_nil,List.sum_cons,List.sum_nil]
 exact⟨om,om,om,om,om,om,w4⟩
def celQ (c:CelE):Nat:=max c.qual.length c.value.length
def rowQ (r:RowE):Nat:=max r.row.length (max r.cells.length (r.cells.foldr (fun c a=>max (celQ c) a) 0))
theorem fold_le {l:List CelE} {m:Nat} (h:∀c∈l,celQ c≤m):l.foldr (fun c a=>max (celQ c) a) 0≤m:=by
 exact kbQ
theorem le_fold {l:List CelE} {c:CelE} (h:c∈l):celQ c≤l.foldr (fun c a=>max (celQ c) a) 0:=by
 exact kbX
theorem sCel_av2 {a:AV} {m:Nat} (h:SCel a m):∃x:CelE,a=Zp x∧celQ x≤m∧1≤m:=by
 obtain⟨xs,rfl,hx,rfl⟩:=h
 obtain⟨x0,xs,rfl,h0,hx⟩:=ZE hx
 obtain⟨x1,xs,rfl,h1,hx⟩:=ZE hx
 obtain⟨x2,xs,rfl,h2,hx⟩:=ZE hx
 obtain⟨x3,xs,rfl,h3,hx⟩:=ZE hx
 obtain rfl:=Q6 hx
 obtain⟨n0,e0,_,_⟩:=h0
 obtain⟨n1,e1,l1⟩:=WY h1
 obtain⟨n2,e2,_,_⟩:=h2
 obtain⟨n3,e3,l3⟩:=WY h3
 refine⟨⟨n0,n1,n2,n3⟩,by simp[Zp,e0,e1,e2,e3],?_,om⟩
 simp only[celQ,List.map_cons,List.map_nil,List.sum_cons,List.sum_nil]
 omega
theorem sRow_av2 {a:AV} {m:Nat} (h:SRow a m):∃x:RowE,a=Zg x∧rowQ x≤m∧1≤m:=by
 obtain⟨xs,rfl,hx,rfl⟩:=h
 obtain⟨x0,xs,rfl,h0,hx⟩:=ZE hx
 obtain⟨x1,xs,rfl,h1,hx⟩:=ZE hx
 obtain rfl:=Q6 hx
 obtain⟨n0,e0,l0⟩:=WY h0
 obtain⟨n1,e1,hl,hc⟩:=J8 (f:=Zp) (q:=celQ) (fun a m h=>sCel_av2 h) h1
 refine⟨⟨n0,n1⟩,by simp[Zg,e0,e1],?_,om⟩
 have:=fold_le hc
 simp only[rowQ,List.map_cons,List.map_nil,List.sum_cons,List.sum_nil]
 omega
theorem rowQ_spec {r:RowE} {m:Nat} (h:rowQ r≤m):r.row.length≤m∧r.cells.length≤m∧∀c∈r.cells,c.qual.length≤m∧c.value.length≤m:=by
 unfold rowQ at h
 refine⟨om,om,fun c hc=> ?_⟩
 have:=le_fold hc
 have e:celQ c=max c.qual.length c.value.length:=rfl
 omega
section
variable {H:Type} {enc:TypeId×Value→H} {W:World}
set_option maxRecDepth 100000 in
theorem argQryT {v : Value} {d : DataW H} {ps : List MemPlace} (hv : Value.okWide prog W .any 0 25 v) (h : DataW.Trod enc prog W 0 (fun _ => true) true 25 v d ps) (hb : Rows.uptoBulk d ≤ 1048576) :
   ∃x:QryE,Rel (c0 W) (Zf x) false [v]∧x.fine∧ -9223372036854775808≤x.time∧x.time<9223372036854775808:=by
 obtain⟨a,m,h1,h2,h3⟩:=La rQry h
 obtain⟨x,rfl,f1,f2,f3,f4,f5,f6,f7⟩:=sQry_av2 h1
 refine⟨x,rel_flat h2 (fun _=> ?_) (fun h=>by simp[Zf,AV.isAgg]at h),⟨om,om,om,om,om,om⟩,i64_bd f7⟩
 obtain⟨cs,hcs,_⟩:=okWide_struct underlying25 hv
 exact⟨cs,hcs⟩
theorem argQry {v : Value} {d : DataW H} {ps : List MemPlace} (hv : Value.okWide prog W .any 0 25 v) (h : DataW.Trod enc prog W 0 (fun _ => true) true 25 v d ps) (hb : Rows.uptoBulk d ≤ 1048576) :
   ∃x:QryE,Rel (c0 W) (Zf x) false [v]∧x.fine:=by
 obtain⟨x,h1,h2,_⟩:=argQryT hv h hb
 exact⟨x,h1,h2⟩
end
def tabs:List (String×DataW Unit):=[("strata/wire.table",Rows.laid_strata_wire_table)]
theorem var_cells {W:World} {nm:String} {g:Nat} {cs:Array Value} (hg:(prog).globalNamed nm=some g) (h:W.var? prog nm=some cs):∃ty fr,W.heap[g]? =some (.cells cs ty fr):=by
 unfold World.var? at h
 rw[hg]at h
 simp only[Option.bind_some]at h
 split at h
 ·rename_i c ty fr hb;simp only[Option.some.injEq]at h;subst h;exact⟨ty,fr,hb⟩
 ·simp at h
theorem tables {W:World} (h:laidMetH prog tabs W):∃(aT:Array Value) (tT:TypeId) (fT:Nat×Nat),W.heap[1]? =some (.cells aT tT fT)∧At aT 0 (Qr.map fun n=> .int .u32 n):=by
 have h:laidMet prog tabs W:=h
 obtain⟨ps,⟨g,t,cs,fuel,p,q,hg,ht,hv,hd,_,_⟩,_⟩:=h
 have e1:(prog).globalNamed "strata/wire.table" =some 1:=by kernel_rfl
 have e3:((prog).globals[1]?).map (·.type)=some 197:=by kernel_rfl
 obtain rfl:=Option.some.inj (hg.symm.trans e1)
 obtain rfl:=Option.some.inj (ht.symm.trans e3)
 obtain⟨tT,fT,hT⟩:=var_cells e1 hv
 refine⟨cs,tT,fT,hT,?_⟩
 have hc:cs.toList=Qr.map fun z=>Value.int .u32 z:=Lib.cells_of_tab (zs:=Qr) underlying197 underlying163 (by kernel_rfl) (by kernel_rfl) hd
 exact At.self hc
def cG (W:World):Ctx:=⟨fun k v=>if k=1∧v=0 then some .nil else none,(c0 W).ro⟩
def HG:Heap:=fun k=>if k=1 then some (.glob 1 Ul)else none
theorem cG_le (W:World):(c0 W).le (cG W):=⟨fun h=>by simp[c0]at h,fun h=>h⟩
theorem gokG:GOK 1 1 HG 2:=⟨fun h=>absurd rfl h,rfl,odc,odc⟩
theorem simG {W:World} (h:laidMetH prog tabs W):Sim (cG W) HG 2 W where
 ro:=(sim0 W).ro
 own:=fun k o hk=>by
   obtain⟨aT,tT,fT,hT,aT'⟩:=tables h
   unfold HG at hk
   split at hk
   ·rename_i e;subst e;cases hk
    refine⟨by simp[cG],fun x hx=> ?_,aT,_,by simp[cG,c0,hT],?_,aT'⟩
    ·obtain⟨i,_,rfl⟩:=List.mem_map.1 hx;rfl
    ·unfold Ul
     generalize Qr=l
     induction l with
     | nil=>simp[RelF]
     | cons n l ih=>simp only[List.map_cons,RelF];exact⟨[_],_,rfl,rfl,ih⟩
   ·simp at hk
 sep:=fun k o b hk hb=>by
   exact kco
 inj:=fun k k' o o' b hk hk' hb _=>by
   exact kco
 fresh:=fun k hk=>⟨by unfold HG;rw[if_neg om],fun v=>by simp only[cG];rw[if_neg om]⟩
 vers:=fun k o v hk hv=>by
   have:¬v=0:=om
   simp[cG,this]
theorem retG {f : FuncId} {args : List AV} {W : World} {vs : List Value} (hw : laidMetH prog tabs W) (h : Ret prog f args HG 2 (.bool true) HG 2) (hr : RelT (c0 W) args vs) :
   Calls prog f vs.toArray W fun e w'=>e= .returned (.bool true)∧RowKit.Below W.heap.size W w':=
 (h (cG W) W vs (simG hw) (RelT.mono (cG_le W) _ _ hr)).mono fun e w' ⟨res,c',H',n',⟨hres,_,_⟩,hst,hm⟩=>by
   subst hres
   refine⟨?_,?_⟩
   ·exact kbO
   ·have hf:=hst.fr
    exact⟨hf.os,hf.tape,hf.output,hf.size,fun k hk=>hf.keep k hk fun⟨j,o,h1,hb⟩=>by
      unfold HG at h1
      split at h1
      ·rename_i e;subst e;cases h1;simp[Zj,AObj.ver,cG]at hb
      ·simp at h1⟩
def putCells (cs:Array Value):Obj→Obj
 | .cells _ t fr=> .cells cs t fr
 | o=>o
noncomputable def Li (os:Os):World:=
 {World.holding prog os ⟨#[],#[],[]⟩with heap:=(World.holding prog os ⟨#[],#[],[]⟩).heap.modify 1 (putCells #[.int .u32 0,.int .u32 274646895,.int .u32 549293790,.int .u32 820201905,.int .u32 1098587580,.int .u32 1361435347,.int .u32 1640403810,.int .u32 1905808397,.int .u32 2197175160,.int .u32 2460548119,.int .u32 2722870694,.int .u32 2987750089,.int .u32 3280807620,.int .u32 3553878443,.int .u32 3811616794,.int .u32 4084100981])}
end Go.Proofs.YtkmkbndcekklmaaGreatDoor
namespace Go.Rt
open Go Go.Sx
section
variable {fs:List Fml} {t:List UInt8}
end
end Go.Rt
set_option maxRecDepth 10000
namespace Go.Proofs.YtkmkbndcekklmaaGreatDoor
open Go Go.Sx Go.Rt Go.Proofs Tryz
theorem mod128 (x:Nat):AV.int .u8 (IntKind.u8.wrap (IntKind.u64.wrap (128+(x:Int).tmod 128)))=Zd (UInt8.ofNat (x%128+128)):=by
 have h1:(x:Int).tmod 128=((x%128:Nat):Int):=by rw[Int.tmod_eq_emod_of_nonneg om];omega
 rw[h1,show(128:Int)+((x%128:Nat):Int)=((x%128+128:Nat):Int) by omega,ZZ,X8 _ om,Xz,LH]
theorem NJ70.eqs {P Q:Prop} (g:Imp P Q:=by(try simp only[go_sem,seval]);exact Imp.rf):Imp P Q:=g
open NJ70 NY in
theorem Xt (v:Nat) (hv:v<18446744073709551616) (H:Heap) (n:Nat):Ret prog 125 [.int .u64 v] H n (.osl n (Zh v).length 0 (Zh v).length) (H.put n (some (.arr (Zh v).length 1 ((Zh v).map Zd)))) (n+1):=by
 have hlen:=Zm hv
 refine fw func125 ntmps125 results125 ?_
 refine kcu ?_
 refine rg zs [0,3] ?_
 refine bk fun K1 hK1=> ?_
 refine ZX 3 1 rfl ?_
 refine Yl [0,3] ?_
 simp only[go_sem,seval]
 refine Zo (fun T' H' n'=>∃(b:List UInt8) (x:Nat),b++Zh x=Zh v∧x<18446744073709551616∧T'=tl [(0,.int .u64 x),(3,.osl n b.length 0 b.length)]∧H'=H.put n (some (.arr b.length 1 (b.map Zd)))∧n'=n+1) (fun T' _ _=>iv (T' 0)) ?_ ?_
 ·exact⟨[],v,rfl,hv,rfl,rfl,rfl⟩
 rintro T1 H1 n1 ⟨b,x,hbx,hx,rfl,rfl,rfl⟩
 refine Za fun K2 hK2=> ?_
 refine rg zs [0,3,5] ?_
 refine Zb ?_ ?_<;>intro hb
 ·have hge:128≤x:=ott
  rw[Qq hge]at hbx
  have hbl:b.length≤10:=by have:=congrArg List.length hbx;simp at this;omega
  have hdv:(x:Int).tdiv 128=((x/128:Nat):Int):=by rw[Int.tdiv_eq_ediv_of_nonneg om];omega
  have hwr:IntKind.u64.wrap ((x/128:Nat):Int)=((x/128:Nat):Int):=by rw[ZZ,X8 _ om]
  refine kaQ ?_
  refine kbM ?_
  refine Ze zs [0,3] fun K V=> ?_
  try simp only[go_sem,seval,mod128,List.length_map,List.take_length,Qe,List.take_of_length_le]
  repeat (first | (refine And.intro ?_ ?_;· first | exact⟨rfl,by simp[AV.sz,AV.memOK]⟩ | exact⟨om,.inr trivial,om,om⟩) | refine peel ?_)
  refine kas ?_
  refine ZJ zs [0,3] fun K V=> ?_
  try simp only[go_sem,seval,hdv,hwr]
  refine kad ?_
  exact ka7
 exact kaq
theorem NJ71.eqs {P Q:Prop} (g:Imp P Q:=by(try simp only[go_sem,seval,List.length_map,ZZ,hu]);exact Imp.rf):Imp P Q:=g
theorem NJ71.sd {P:Prop} (g:P:=by first | exact⟨om,.inr trivial,om,om⟩ | fail):P:=g
open NJ71 NZ in
theorem Wm (b:List UInt8) (hb:b.length≤1099511627776) (H:Heap) (n:Nat):Ret prog 126 [bys b] H n (.osl n ((Zh b.length).length+1) 0 (Zl b).length) (H.put n (some (.arr ((Zh b.length).length+1) 1 ((Zl b).map Zd)))) (n+1):=by
 have hlen:=Zm (v:=b.length) om
 have hu:u64 (b.length:Int)=b.length:=X8 _ om
 refine fw func126 ntmps126 results126 ?_
 refine kcu ?_
 refine rk zs [2] fun K V=> ?_
 refine ck func125 ((Xt b.length om _ _)) ?_
 refine kas ?_
 exact kbR
theorem NHj0.eqs {P Q:Prop} (g:Imp P Q:=by(try simp only[go_sem,seval,hsz,Zf,Zx,bys,List.length_map,f1,f2,hQ,hB,g1,g2,hnth,hx,Yg,ZZ,Int.toNat_natCast]);exact Imp.rf):Imp P Q:=g
theorem NHj0.sd {P:Prop} (g:P:=by first | exact⟨Nat.le_refl _,Nat.le_refl _,.inr trivial,om,om⟩ | exact⟨om,om⟩ | fail):P:=g
set_option maxHeartbeats 3200000 in
open NHj0 NZ in
theorem c_ref13_form (q:QryE) (h1:q.frm.length≤1048576) (h2:q.to.length≤1048576) (h3:q.fams.length≤1048576) (h4:q.pre.length≤1048576) (h5:q.whr.length≤1048576) (H:Heap) (n:Nat):Ret prog 128 [Zf q] H n (bys (YD q)) H n:=by
 have hsz:(Zf q).sz=10:=Z9 q
 have hQ:=hsz
 have hB:=hsz
 have g1:=hsz
 have g2:=hsz
 have hnth:=hsz
 have hx:=hsz
 have f1:(n=n+1)=False:=osi
 have f2:(n+1=n)=False:=osi
 refine Ret.fin ?_
 refine fw func128 ntmps128 results128 ?_
 refine rg zs [1] ?_
 refine rg zo [1,3] ?_
 refine Z6 [1,3] (fun T' H' n'=>T'=tl [(1,.loc n 0 0 0 []),(3,.osl (n+1) 0 0 1)]∧Wy q H n 0 1 [if q.rev then 1 else 0] H' n') ?_ ?_
 ·refine rg zs [1,3,7] ?_
  refine Zb ?_ ?_<;>intro hb
  ·refine rg1 zs [1,3] ?_
   exact kaC
  refine ak ?_
  exact kaC
 rintro T1 H1 m ⟨rfl,hS⟩
 obtain⟨b0,hb0⟩:∃b,b=[if q.rev then(1:UInt8)else 0]:=⟨_,rfl⟩
 rw[←hb0]at hS
 have hb1:b0.length=1:=by rw[hb0];rfl
 rw[show AV.osl (n+1) 0 0 1=AV.osl (n+1) 0 0 b0.length by rw[hb1]]
 have hQ:=hS.q
 have hB:=hS.b
 have hl:=hS.lt
 have hle:=hS.le
 have g1:(n+1=m)=False:=oz
 have g2:(n=m)=False:=oz
 have hy:=Zm (v:=q.frm.length) om
 have hz:(Zl q.frm).length=(Zh q.frm.length).length+q.frm.length:=by simp[Zl]
 refine rk zs [1,3] fun K V=> ?_
 refine ck func126 ((Wm q.frm om _ _)) ?_
 refine kas ?_
 refine ZO (fun H' n'=>Wy q H n (0+1) 1048600 (b0++Zl q.frm) H' n') (hS.app (Zl q.frm) rfl om om) fun H1 m hS=> ?_
 refine kbS ?_
 obtain⟨c1,hc1⟩:∃b,b=b0++Zl q.frm:=⟨_,rfl⟩
 rw[←hc1]at hS ⊢
 have hQ:=hS.q
 have hB:=hS.b
 have hl:=hS.lt
 have hle:=hS.le
 have g1:(n+1=m)=False:=oz
 have g2:(n=m)=False:=oz
 have hy:=Zm (v:=q.to.length) om
 have hz:(Zl q.to).length=(Zh q.to.length).length+q.to.length:=by simp[Zl]
 refine rk zs [1,3] fun K V=> ?_
 refine ck func126 ((Wm q.to om _ _)) ?_
 refine kas ?_
 refine ZO (fun H' n'=>Wy q H n (0+1+1) 2097200 (c1++Zl q.to) H' n') (hS.app (Zl q.to) rfl om om) fun H1 m hS=> ?_
 refine kbS ?_
 obtain⟨c2,hc2⟩:∃b,b=c1++Zl q.to:=⟨_,rfl⟩
 rw[←hc2]at hS ⊢
 have hQ:=hS.q
 have hB:=hS.b
 have hl:=hS.lt
 have hle:=hS.le
 have g1:(n+1=m)=False:=oz
 have g2:(n=m)=False:=oz
 have hy:=Zm (Z5 q.fams.length)
 refine rc zs [1,3] func125 ((Xt (u64 q.fams.length) (Z5 _) _ _)) ?_
 refine Za fun K1 hK1=> ?_
 refine ZO (fun H' n'=>Wy q H n (0+1+1+1) 3000000 (c2++Zh (u64 q.fams.length)) H' n') (hS.app (Zh (u64 q.fams.length)) rfl om om) fun H1 m hS=> ?_
 refine kbS ?_
 obtain⟨c3,hc3⟩:∃b,b=c2++Zh (u64 q.fams.length):=⟨_,rfl⟩
 rw[←hc3]at hS ⊢
 have hQ:=hS.q
 have hB:=hS.b
 have hl:=hS.lt
 have hle:=hS.le
 have g1:(n+1=m)=False:=oz
 have g2:(n=m)=False:=oz
 refine rg zs [1,3,4] ?_
 refine kbM ?_
 refine Zo (fun T' H' n'=>∃i:Nat,i≤q.fams.length∧T'=tl [(1,.loc n 0 0 0 []),(3,.osl (n+1) (3+i) 0 (c3++(q.fams.take i).flatMap (fun f=>Zh (u64 f))).length),(4,.int .i64 i)]∧Wy q H n (3+i) (3000000+10*i) (c3++(q.fams.take i).flatMap (fun f=>Zh (u64 f))) H' n') (fun T' _ _=>q.fams.length-iv (T' 4)) ?_ ?_
 ·exact⟨0,Nat.zero_le _,osi,by simpa using hS⟩
 rintro T1 H1 n1 ⟨i,hi,rfl,hS⟩
 obtain⟨m,hm⟩:∃m,m=n1:=⟨_,rfl⟩
 subst hm
 have hQ:=hS.q
 refine Za fun K2 hK2=> ?_
 refine rg zs [1,3,4,31] ?_
 refine Zb ?_ ?_<;>intro hb
 ·have hlt:i<q.fams.length:=ott
  have hx:IntKind.i64.wrap ((i:Int)+1)=((i+1:Nat):Int):=w1 om
  have hnth:nth (q.fams.map fun n=>AV.int .i64 n) i=AV.int .i64 (q.fams.getD i 0):=Zw (fun n=>AV.int .i64 n) q.fams _ hlt
  have hy:=Zm (Z5 (q.fams.getD i 0))
  have hts:(q.fams.take (i+1)).flatMap (fun f=>Zh (u64 f))=(q.fams.take i).flatMap (fun f=>Zh (u64 f))++Zh (u64 (q.fams.getD i 0)):=by rw[List.take_succ_eq_append_getElem hlt,List.flatMap_append];simp[List.getD,hlt]
  obtain⟨d,hd⟩:∃d,d=c3++(q.fams.take i).flatMap (fun f=>Zh (u64 f)):=⟨_,rfl⟩
  rw[←hd]at hS ⊢
  have hQ:=hS.q
  have hB:=hS.b
  have hl:=hS.lt
  have hle:=hS.le
  have g1:(n+1=m)=False:=oz
  have g2:(n=m)=False:=oz
  refine kaQ ?_
  refine bk fun K3 hK3=> ?_
  refine rc1 zs [1,3,4] func125 ((Xt (u64 (q.fams.getD i 0)) (Z5 _) _ _)) ?_
  apply hK3
  refine rg1 zs [1,3,4] ?_
  exact kbf
 have hge:i=q.fams.length:=otf
 have htk:q.fams.take i=q.fams:=List.take_of_length_le om
 subst hge
 obtain⟨c4,hc4⟩:∃d,d=c3++(q.fams.take q.fams.length).flatMap (fun f=>Zh (u64 f)):=⟨_,rfl⟩
 rw[←hc4]at hS ⊢
 have hQ:=hS.q
 have hB:=hS.b
 have hl:=hS.lt
 have hle:=hS.le
 have g1:(n+1=m)=False:=oz
 have g2:(n=m)=False:=oz
 have hy:=Zm (v:=q.pre.length) om
 have hz:(Zl q.pre).length=(Zh q.pre.length).length+q.pre.length:=by simp[Zl]
 refine ax ?_
 apply hK1
 refine rk zs [1,3] fun K V=> ?_
 refine ck func126 ((Wm q.pre om _ _)) ?_
 refine kas ?_
 refine ZO (fun H' n'=>Wy q H n (3+q.fams.length+1) 16000000 (c4++Zl q.pre) H' n') (hS.app (Zl q.pre) rfl om om) fun H1 m hS=> ?_
 refine kbS ?_
 obtain⟨c5,hc5⟩:∃b,b=c4++Zl q.pre:=⟨_,rfl⟩
 rw[←hc5]at hS ⊢
 have hQ:=hS.q
 have hB:=hS.b
 have hl:=hS.lt
 have hle:=hS.le
 have g1:(n+1=m)=False:=oz
 have g2:(n=m)=False:=oz
 have hy:=Zm (Z5 q.time)
 refine rc zs [1,3] func125 ((Xt (u64 q.time) (Z5 _) _ _)) ?_
 refine ZO (fun H' n'=>Wy q H n (3+q.fams.length+1+1) 16000010 (c5++Zh (u64 q.time)) H' n') (hS.app (Zh (u64 q.time)) rfl om om) fun H1 m hS=> ?_
 refine kbS ?_
 obtain⟨c6,hc6⟩:∃b,b=c5++Zh (u64 q.time):=⟨_,rfl⟩
 rw[←hc6]at hS ⊢
 have hQ:=hS.q
 have hB:=hS.b
 have hl:=hS.lt
 have hle:=hS.le
 have g1:(n+1=m)=False:=oz
 have g2:(n=m)=False:=oz
 have hy:=Zm (Z5 q.n)
 refine rc zs [1,3] func125 ((Xt (u64 q.n) (Z5 _) _ _)) ?_
 refine ZO (fun H' n'=>Wy q H n (3+q.fams.length+1+1+1) 16000020 (c6++Zh (u64 q.n)) H' n') (hS.app (Zh (u64 q.n)) rfl om om) fun H1 m hS=> ?_
 refine kbS ?_
 obtain⟨c7,hc7⟩:∃b,b=c6++Zh (u64 q.n):=⟨_,rfl⟩
 rw[←hc7]at hS ⊢
 have hQ:=hS.q
 have hB:=hS.b
 have hl:=hS.lt
 have hle:=hS.le
 have g1:(n+1=m)=False:=oz
 have g2:(n=m)=False:=oz
 have hy:=Zm (v:=q.whr.length) om
 have hz:(Zl q.whr).length=(Zh q.whr.length).length+q.whr.length:=by simp[Zl]
 refine rk zs [2] fun K V=> ?_
 refine ck func126 ((Wm q.whr om _ _)) ?_
 refine kas ?_
 exact kaG
theorem eight_head (v:Nat):(U6 v 8).drop 4=Yv v:=by
 show[Z4 ((v/256^3:Nat):Int),Z4 ((v/256^2:Nat):Int),Z4 ((v/256^1:Nat):Int),Z4 ((v/256^0:Nat):Int)]=_
 unfold Yv
 rw[show((v/256^3:Nat):Int)=(v:Int)/16777216 by omega,show((v/256^2:Nat):Int)=(v:Int)/65536 by omega,show((v/256^1:Nat):Int)=(v:Int)/256 by omega,show((v/256^0:Nat):Int)=(v:Int) by omega]
theorem NHk0.eqs {P Q:Prop} (g:Imp P Q:=by(try simp only[go_sem,seval,List.length_map,ZZ,hu,e1,e4,YA,Option.getD_some,Option.getD_none]);exact Imp.rf):Imp P Q:=g
open NHk0 NY in
theorem c_ref1_Frame (b:List UInt8) (hb:b.length≤1048576) (H:Heap) (n:Nat):Ret prog 129 [bys b] H n (.tup [bys (Z7 b),.int .i64 0]) H n:=by
 have hu:u64 (b.length:Int)=b.length:=X8 _ om
 have e1:List.drop 4 (List.take 8 ((U6 b.length 8).map Zd))=(Yv b.length).map Zd:=by rw[List.take_of_length_le (by simp[YA]),←List.map_drop,eight_head]
 obtain⟨hd,hhd⟩:∃x,x=Yv b.length:=⟨_,rfl⟩
 have hdl:hd.length=4:=by rw[hhd];rfl
 have hfb:Z7 b=hd++lowB (sumF [hd])++b++lowB (sumF [b]):=by rw[hhd];rfl
 rw[←hhd]at e1
 have e2:(hd.take 4).drop 0=hd:=by rw[List.drop_zero,List.take_of_length_le om]
 have hll:∀v,(lowB v).length=4:=fun v=>rfl
 have e4:List.take 4 (hd.map Zd)=hd.map Zd:=List.take_of_length_le oz
 have e8:List.take 8 ((hd++lowB (sumF [hd])).map Zd)=(hd++lowB (sumF [hd])).map Zd:=List.take_of_length_le (by simp[hll];omega)
 have hzz:(Option.map (fun x=>x) (none:Option Nat))=none:=rfl
 refine Ret.fin ?_
 refine fw func129 ntmps129 results129 ?_
 refine kcu ?_
 refine Za fun K1 hK1=> ?_
 refine rg zs [0,8] ?_
 refine Zb ?_ ?_<;>intro hb
 ·exact absurd (of_decide_eq_true hb) om
 refine kay ?_
 refine rk zs [0,4] fun K V=> ?_
 refine ck func146 ((c_ref1_eight b.length om _ _)) ?_
 refine kas ?_
 refine rk zs [0,5] fun K V=> ?_
 refine ck func58 ((e2▸QF hd om 0 4 om om _ _)) ?_
 refine ck func133 ((Vb hd om _ _)) ?_
 refine kas ?_
 refine ZO (fun H' n'=>H' n=some (.arr 2 1 ((hd++lowB (sumF [hd])).map Zd))∧(∀k,k<n→H' k=H k)∧n'=n+1) ⟨by simp only[Px,List.map_append];rw[List.take_of_length_le osi],fun k hk=>Pw _ _ om,rfl⟩ fun H1 n1 ⟨r1,hl1,hn1⟩=> ?_
 subst hn1
 refine kbS ?_
 have hl8:(hd++lowB (sumF [hd])).length=8:=by rw[List.length_append,hdl];rfl
 have e9:List.take (hd++lowB (sumF [hd])).length ((hd++lowB (sumF [hd])).map Zd)=(hd++lowB (sumF [hd])).map Zd:=List.take_of_length_le osi
 refine Ze zs [0,5] fun K V=> ?_
 try simp only[go_sem,seval,List.length_map,ZZ,hu,e1,e4,YA,Option.getD_some,Option.getD_none,r1,e9]
 repeat (first | (refine And.intro ?_ ?_;· first | exact⟨osi,.inr trivial,om,om⟩) | refine peel ?_)
 refine kas ?_
 refine ZO (fun H' n'=>H' n=some (.arr 3 1 ((hd++lowB (sumF [hd])++b).map Zd))∧(∀k,k<n→H' k=H k)∧n'=n+1) ⟨by simp only[Px,List.map_append],fun k hk=>(Pw _ _ om).trans (hl1 k hk),rfl⟩ fun H2 n2 ⟨r2,hl2,hn2⟩=> ?_
 subst hn2
 refine kbS ?_
 have e10:List.take (hd++lowB (sumF [hd])++b).length ((hd++lowB (sumF [hd])++b).map Zd)=(hd++lowB (sumF [hd])++b).map Zd:=List.take_of_length_le osi
 have hl9:(hd++lowB (sumF [hd])++b).length=8+b.length:=by rw[List.length_append,hl8]
 refine Ze zs [2,3] fun K V=> ?_
 try simp only[go_sem,seval,List.length_map,ZZ,hu,e1,e4,YA,Option.getD_some,Option.getD_none,r2,e10]
 repeat refine peel ?_
 refine Zu func133 rfl rfl rfl ((Vb b om _ _)) ?_
 try simp only[go_sem,seval,List.length_map,ZZ,hu,e1,e4,YA,Option.getD_some,Option.getD_none,r2,e10]
 repeat (first | (refine And.intro ?_ ?_;· first | exact⟨osi,.inr trivial,by rw[hl9,hll];omega,by rw[hl9,hll];omega⟩) | refine peel ?_)
 refine kas ?_
 refine ar ?_
 refine⟨_,rfl,fun k hk=>by rw[if_neg om];exact hl2 k hk,?_⟩
 rw[hfb]
 exact .tup (.cons (.osl (Px _ _ _) (Nat.le_refl _) oz (by rw[List.drop_zero,List.take_of_length_le oz,←List.map_append];exact Wp _ (Z0 _ _))) (.cons (.kl trivial) .nil))
theorem or_add {x y k:Nat} (h:y<2^k):x*2^k ||| y=x*2^k+y:=by
 rw[←Nat.shiftLeft_eq,←Nat.shiftLeft_add_eq_or_of_lt h]
theorem hd4_num {b:List UInt8} (h:4≤b.length):hd4 b=numB 0 ((b.drop 0).take 4):=by
 obtain⟨x,y,z,w,l,rfl⟩:∃x y z w l,b=x::y::z::w::l:=by
   match b,h with
   | x::y::z::w::l,_=>exact⟨x,y,z,w,l,rfl⟩
 have hx:=x.toNat_lt;have hy:=y.toNat_lt;have hz:=z.toNat_lt;have hw:=w.toNat_lt
 show((x.toNat*2^24 ||| y.toNat*2^16) ||| z.toNat*2^8) ||| w.toNat=256*(256*(256*(256*0+x.toNat)+y.toNat)+z.toNat)+w.toNat
 rw[Nat.or_assoc,or_add (x:=z.toNat) (y:=w.toNat) (k:=8) om,Nat.or_assoc,or_add (x:=y.toNat) (y:=z.toNat*2^8+w.toNat) (k:=16) om,or_add (x:=x.toNat) (k:=24) om]
 omega
theorem NHk1.eqs {P Q:Prop} (g:Imp P Q:=by(try simp only[go_sem,seval,List.length_map,k4,k8,k12,m4,m8,m0,m12]);exact Imp.rf):Imp P Q:=g
set_option maxHeartbeats 1600000 in
open NHk1 NY in
theorem Lx (b:List UInt8) (hb9:b.length≤1099511627776) (H:Heap) (n:Nat):Ret prog 97 [bys b,.int .i64 0] H n (.tup [bys (rfQ b).1,.int .i64 (rfQ b).2.1,.int .i64 (rfQ b).2.2]) H n:=by
 obtain⟨N,hNd⟩:∃N,N=numB 0 ((b.drop 0).take 4):=⟨_,rfl⟩
 have hrf:rfQ b=rfN b N:=by
   unfold rfQ
   by_cases h:4≤b.length
   ·rw[hd4_num h,hNd]
   ·unfold rfN;rw[if_pos om,if_pos om]
 rw[hrf]
 clear hrf
 have hNl:N<4294967296:=by
   have h1:=Nr ((b.drop 0).take 4) 0
   have h2:256^((b.drop 0).take 4).length≤256^4:=Nat.pow_le_pow_right om (by rw[List.length_take];omega)
   rw[hNd];unfold numB;omega
 have k4:IntKind.i64.wrap 4=4:=odc
 have k8:IntKind.i64.wrap 8=8:=odc
 have k12:IntKind.i64.wrap 12=12:=odc
 have m4:(4:Int).toNat=4:=rfl
 have m8:(8:Int).toNat=8:=rfl
 have m0:(0:Int).toNat=0:=rfl
 have m12:(12:Int).toNat=12:=rfl
 refine Ret.fin ?_
 refine fw func97 ntmps97 results97 ?_
 refine kb1 ?_
 refine Za fun K1 hK1=> ?_
 refine rc zs [0,1,11] func132 ((VT b 0 _ _)) ?_
 refine Zb ?_ ?_<;>intro hb
 ·exact kcQ
 refine kay ?_
 refine Za fun K2 hK2=> ?_
 refine rg zs [0,1,16] ?_
 refine Zb ?_ ?_<;>intro hb
 ·have h8:b.length<8:=by have:=of_decide_eq_true hb;rw[w64 om om]at this;omega
  have hw:rfN b N=([],0,10):=by unfold rfN;rw[if_pos h8]
  exact kaf
 have h8:8≤b.length:=by have:=of_decide_eq_false hb;rw[w64 om om]at this;omega
 have e2:List.take 4 (b.map Zd)=(b.take 4).map Zd:=by rw[List.map_take]
 have e3:List.drop 4 (List.take 8 (b.map Zd))=((b.drop 4).take 4).map Zd:=by rw[List.drop_take,←List.map_drop,←List.map_take]
 refine kaQ ?_
 refine Za fun K3 hK3=> ?_
 refine Xe rfl zs [0,1,30] [.m,.m,.m,.q,.q,.c,.m,.m,.q,.m,.q,.q,.c,.q] [0,1,2,3,4,5,6,7,8,9,10,11,12,13] [0,1,2,3,4,5,6,7,8,9,10,11,12,13] (by kernel_rfl) (fun _ _ _ _ _ h=>h) fun K V=> ?_
 refine kbt ?_
 repeat (first | (refine And.intro ?_ ?_;· first | exact⟨om,fun m h=>h.elim⟩) | refine peel ?_)
 refine ZL func133 rfl rfl rfl (fun _ n=>(Vb (b.take 4) (by rw[List.length_take];omega) _ _)) ?_
 refine kbt ?_
 repeat (first | (refine And.intro ?_ ?_;· first | exact⟨om,fun m h=>h.elim⟩) | refine peel ?_)
 refine ZL func46 rfl rfl rfl (fun _ n=>(Y9 (lowB (sumF [b.take 4])) ((b.drop 4).take 4) _ _)) ?_
 refine kbt ?_
 refine kad ?_
 refine Zb ?_ ?_<;>intro hb
 ·have hs1:(lowB (sumF [b.take 4])==(b.drop 4).take 4)=false:=osb
  have hw:rfN b N=([],0,12):=by unfold rfN;rw[if_neg om,if_pos (by rw[BEq.comm];exact hs1)]
  exact kaf
 have hs1:(lowB (sumF [b.take 4])==(b.drop 4).take 4)=true:=osb
 have hs2:¬((b.drop 4).take 4==lowB (sumF [b.take 4]))=false:=by rw[BEq.comm,hs1];simp
 have eN:IntKind.i64.wrap (N:Int)=(N:Int):=w64 om om
 refine kba ?_
 refine Ze zs [0,1,7] fun K V=> ?_
 try simp only[go_sem,seval,List.length_map,k4,k8,k12,m4,m8,m0,m12,eN]
 repeat refine peel ?_
 refine Zu func134 rfl rfl rfl ((hNd▸c_ref1_number b hb9 0 4 om om _ _)) ?_
 try simp only[go_sem,seval,List.length_map,k4,k8,k12,m4,m8,m0,m12,eN]
 refine kad ?_
 refine Za fun K4 hK4=> ?_
 refine rg zs [0,1,7,36] ?_
 refine Zb ?_ ?_<;>intro hb
 ·have hw:rfN b N=([],0,13):=by unfold rfN;rw[if_neg om,if_neg hs2,if_pos ott]
  exact kaf
 have hN2:¬1048576<N:=otf
 have j0:IntKind.i64.wrap ((b.length:Int)-0)=(b.length:Int):=by rw[w64 om om];omega
 have j1:IntKind.i64.wrap ((b.length:Int)-8)=((b.length-8:Nat):Int):=by rw[w64 om om];omega
 have j2:IntKind.i64.wrap ((N:Int)+4)=((N+4:Nat):Int):=by rw[w64 om om];omega
 have j3:IntKind.i64.wrap (8+(N:Int))=((8+N:Nat):Int):=by rw[w64 om om];omega
 have j4:IntKind.i64.wrap (12+(N:Int))=((8+N+4:Nat):Int):=by rw[w64 om om];omega
 refine kb3 ?_
 refine Za fun K5 hK5=> ?_
 refine Ze zs [0,1,7,44] fun K V=> ?_
 try simp only[go_sem,seval,List.length_map,k4,k8,k12,m4,m8,m0,m12,j0,j1,j2]
 refine kad ?_
 refine Zb ?_ ?_<;>intro hb
 ·have hw:rfN b N=([],0,10):=by unfold rfN;rw[if_neg om,if_neg hs2,if_neg hN2,if_pos ott]
  exact kaf
 have hL:¬b.length-8<N+4:=otf
 have e5:(b.take (8+N)).drop 8=(b.drop 8).take N:=by rw[List.drop_take];congr 1;omega
 have e6:List.drop (8+N) (List.take (8+N+4) (b.map Zd))=((b.drop (8+N)).take 4).map Zd:=by rw[List.drop_take,←List.map_drop,←List.map_take];congr 2;omega
 refine ak ?_
 apply hK5
 refine Ze zs [0,1,7,8] fun K V=> ?_
 try simp only[go_sem,seval,List.length_map,k4,k8,k12,m4,m8,m0,m12,j3]
 repeat refine peel ?_
 refine Zu func58 rfl rfl rfl ((e5▸QU b hb9 8 (8+N) om om _ _)) ?_
 try simp only[go_sem,seval,List.length_map,k4,k8,k12,m4,m8,m0,m12,j3]
 refine kad ?_
 refine Za fun K6 hK6=> ?_
 refine Xe rfl zs [1,7,8,66] [.m,.c,.m,.m,.q,.m,.q,.m,.q,.m,.q,.q,.c,.q] [0,1,2,3,4,5,6,7,8,9,10,11,12,13] [0,1,2,3,4,5,6,7,8,9,10,11,12,13] (by kernel_rfl) (fun _ _ _ _ _ h=>h) fun K V=> ?_
 refine kbJ ?_
 repeat refine peel ?_
 refine ZL func133 rfl rfl rfl (fun _ n=>(Vb ((b.drop 8).take N) (by rw[List.length_take];omega) _ _)) ?_
 refine kbJ ?_
 repeat (first | (refine And.intro ?_ ?_;· first | exact⟨om,om,om,fun m h=>h.elim⟩) | refine peel ?_)
 refine ZL func46 rfl rfl rfl (fun _ n=>(Y9 (lowB (sumF [(b.drop 8).take N])) ((b.drop (8+N)).take 4) _ _)) ?_
 refine kbJ ?_
 refine kad ?_
 refine Zb ?_ ?_<;>intro hb
 ·have hs3:(lowB (sumF [(b.drop 8).take N])==(b.drop (8+N)).take 4)=false:=osb
  have hw:rfN b N=([],0,12):=by unfold rfN;rw[if_neg om,if_neg hs2,if_neg hN2,if_neg hL,if_pos (by rw[BEq.comm];exact hs3)]
  exact kaf
 have hs3:(lowB (sumF [(b.drop 8).take N])==(b.drop (8+N)).take 4)=true:=osb
 have hw:rfN b N=((b.drop 8).take N,((8+N+4:Nat):Int),0):=by unfold rfN;rw[if_neg om,if_neg hs2,if_neg hN2,if_neg hL,if_neg (by rw[BEq.comm,hs3];simp)]
 refine ak ?_
 apply hK6
 refine Ze zs [4,5,6] fun K V=> ?_
 try simp only[go_sem,seval,List.length_map,k4,k8,k12,m4,m8,m0,m12,j4]
 refine kad ?_
 refine ar ?_
 rw[hw]
 exact⟨_,rfl,.kl ⟨WQ _ _,trivial,trivial,trivial⟩⟩
theorem NHl0.eqs {P Q:Prop} (g:Imp P Q:=by(try simp only[go_sem,seval,hsz,hag,hmo,f1,f2,f3,f4,g1,r1,r2,Yg,ZZ,List.length_map]);exact Imp.rf):Imp P Q:=g
theorem NHl0.sd {P:Prop} (g:P:=by first | exact⟨Nat.le_refl _,Nat.le_refl _,.inr trivial,om,om⟩ | exact⟨rfl,by(simp[AV.sz,AV.memOK];first | done | fail)⟩ | fail):P:=g
open NHl0 NZ in
theorem c_ref13_token (q:QryE) (hq:q.fine) (time:Int) (row:List UInt8) (hr:row.length≤256) (H:Heap) (n:Nat):Ret prog 91 [Zf q,.int .i64 time,bys row] H n (bys (tokB q time row)) H n:=by
 have hsz:(Zf q).sz=10:=Z9 q
 have hag:(Zf q).isAgg=true:=rfl
 have hmo:(Zf q).memOK=true:=rfl
 have r1:=hsz
 have r2:=hsz
 have g1:=hsz
 have hy:=Zm (v:=row.length) om
 have hz:(Zl row).length=(Zh row.length).length+row.length:=by simp[Zl]
 have hy2:=Zm (Z5 time)
 have hy3:=Zm (Z5 (sumF [YD q]))
 have f1:(n=n+1)=False:=osi
 have f2:(n+1=n)=False:=osi
 have f3:(n+1=n+2)=False:=osi
 have f4:(n=n+2)=False:=osi
 refine Ret.fin ?_
 refine fw func91 ntmps91 results91 ?_
 refine rg zs [1,2,3] ?_
 refine rc zs [2,3,7] func125 ((Xt (u64 time) (Z5 _) _ _)) ?_
 refine rk zs [3,7] fun K V=> ?_
 refine ck func126 ((Wm row om _ _)) ?_
 refine kas ?_
 refine ZO (fun H' n'=>H' n=some (.arr 0 10 [Zf q])∧H' (n+1)=some (.arr ((Zh (u64 time)).length+1) 1 ((Zh (u64 time)++Zl row).map Zd))∧(∀k,k<n→H' k=H k)∧n+3≤n') ⟨by(try simp only[Pv]);simp,by rw[Px,List.map_append],fun k hk=>oh,om⟩ fun H1 m ⟨r1,r2,hl1,hm⟩=> ?_
 refine kbS ?_
 have g1:(n+1=m)=False:=oz
 have hbl:(Zh (u64 time)++Zl row).length≤300:=by rw[List.length_append];omega
 have e9:List.take (Zh (u64 time)++Zl row).length (List.map Zd (Zh (u64 time)++Zl row))=List.map Zd (Zh (u64 time)++Zl row):=Yg _
 refine rk zs [7,8] fun K V=> ?_
 refine ck func128 ((c_ref13_form q hq.frm hq.to hq.fams hq.pre hq.whr _ _)) ?_
 refine ck func127 ((N9 [YD q] osi (fun x hx=>by rw[List.mem_singleton.1 hx];have:=formB_len hq;omega) _ _)) ?_
 refine kas ?_
 refine Ze zs [7] fun K V=> ?_
 try simp only[go_sem,seval,hsz,hag,hmo,f1,f2,f3,f4,g1,r1,r2,Yg,ZZ,List.length_map,e9]
 repeat refine peel ?_
 refine Zu func125 rfl rfl rfl ((Xt (u64 (sumF [YD q])) (Z5 _) _ _)) ?_
 try simp only[go_sem,seval,hsz,hag,hmo,f1,f2,f3,f4,g1,r1,r2,Yg,ZZ,List.length_map,e9]
 repeat (first | (refine And.intro ?_ ?_;· first | exact⟨Nat.le_refl _,Nat.le_refl _,.inr trivial,om,om⟩) | refine peel ?_)
 refine kas ?_
 refine rk zs [9] fun K V=> ?_
 rw[←List.length_append,←List.map_append]
 refine Zu func129 rfl rfl rfl (Ret.frzK (args:=[.osl (n+1) ((Zh (u64 time)).length+2) 0 (Zh (u64 time)++Zl row++Zh (u64 (sumF [YD q]))).length]) (args':=[bys (Zh (u64 time)++Zl row++Zh (u64 (sumF [YD q])))]) (n+1) (Px _ _ _) ⟨fz_bys _,trivial⟩ (c_ref1_Frame (Zh (u64 time)++Zl row++Zh (u64 (sumF [YD q]))) (by rw[List.length_append];omega) _ _)) ?_
 refine nz ?_
 refine kas ?_
 refine rg zs [6] ?_
 refine ar ?_
 exact⟨_,rfl,fun k hk=>ohx (hl1 k hk),.kl (Z0 (tokB q time row) _)⟩
theorem head_num {n:Nat} (h:n<4294967296):numB 0 (Yv n)=n:=by
 have hb:∀x:Nat,(Z4 (x:Int)).toNat=x%256:=fun x=>by rw[LH];simp
 show 256*(256*(256*(256*0+(Z4 ((n:Int)/16777216)).toNat)+(Z4 ((n:Int)/65536)).toNat)+(Z4 ((n:Int)/256)).toNat)+(Z4 (n:Int)).toNat=n
 rw[show(n:Int)/16777216=((n/16777216:Nat):Int) by omega,show(n:Int)/65536=((n/65536:Nat):Int) by omega,show(n:Int)/256=((n/256:Nat):Int) by omega,hb,hb,hb,hb]
 omega
theorem frame_end {b:List UInt8} (hb:b.length≤1048576) (h:(rfQ (Z7 b)).2.2=0):(rfQ (Z7 b)).2.1=((Z7 b).length:Int):=by
 have hl:(Z7 b).length=12+b.length:=by unfold Z7;simp only[List.length_append];show 4+4+b.length+4=_;omega
 have hN:hd4 (Z7 b)=b.length:=by
   rw[hd4_num om,List.drop_zero]
   have:(Z7 b).take 4=Yv b.length:=by unfold Z7;rw[List.append_assoc,List.append_assoc];rfl
   rw[this,head_num om]
 unfold rfQ at h ⊢
 rw[hN]at h ⊢
 unfold rfN at h ⊢
 split at h
 ·exact absurd h odc
 split at h
 ·exact absurd h odc
 split at h
 ·exact absurd h odc
 split at h
 ·exact absurd h odc
 split at h
 ·exact absurd h odc
 rename_i h1 h2 h3 h4 h5
 rw[if_neg h1,if_neg h2,if_neg h3,if_neg h4,if_neg h5,hl]
 simp only;omega
def Nt (q:QryE):AV:= .agg [.bool (decide (q.token.length≠0∧(ZP q).2.2=0)),.int .i64 (ZP q).1,bys (ZP q).2.1]
theorem NHl1.eqs {P Q:Prop} (g:Imp P Q:=by(try simp only[go_sem,seval,hsz,hag,hmo,f1,f2,ruAV,rbAV,Zf,Zx,bys,List.length_map,ZZ,hx]);exact Imp.rf):Imp P Q:=g
set_option maxHeartbeats 3200000 in
open NHl1 NY in
theorem QV (q:QryE) (hq:q.fine) (ht: -9223372036854775808≤q.time∧q.time<9223372036854775808) (H:Heap) (n:Nat):Ret prog 60 [Zf q] H n (.tup [Nt q,.int .i64 (ZP q).2.2]) H n:=by
 have hsz:(Zf q).sz=10:=Z9 q
 have hag:(Zf q).isAgg=true:=rfl
 have hmo:(Zf q).memOK=true:=rfl
 have hTu:∀v:Nat,v≤1099511627776→(v≠u64 q.time↔(v:Int)≠q.time):=fun v hv=>by
   unfold u64
   constructor
   ·intro h e;exact h (by rw[←e];omega)
   ·intro h e;exact h om
 unfold Nt
 obtain⟨z,hz⟩:∃z,z=ZP q:=⟨_,rfl⟩
 rw[←hz]
 unfold ZP at hz
 have hfl:=rfQ_len q.token
 have htl:=hq.token
 have hend:∀u row,(rfQ q.token).2.2=0→row.length≤256→(tokB q u row==q.token)=true→(rfQ q.token).2.1=(q.token.length:Int):=fun u row h0 hr he=>by
   have e:tokB q u row=q.token:=by simpa using he
   have h1:=Zm (Z5 u)
   have h2:=Zm (v:=row.length) om
   have h3:=Zm (Z5 (sumF [YD q]))
   rw[←e]at h0 ⊢
   exact frame_end (by simp only[List.length_append,Zl];omega) h0
 obtain⟨fr,hfr⟩:∃f,f=rfQ q.token:=⟨_,rfl⟩
 rw[←hfr]at hz hfl hend
 obtain⟨hu1,hu2,hu3⟩:=ruB_lt fr.1 0
 obtain⟨u,hu⟩:∃u,u=ruB fr.1 0:=⟨_,rfl⟩
 rw[←hu]at hz hu1 hu2 hu3
 have hbm:=Na fr.1 u.2.1 256
 obtain⟨rb,hrb⟩:∃b,b=rbB fr.1 u.2.1 256:=⟨_,rfl⟩
 rw[←hrb]at hz hbm
 have hx:=hsz
 have hxT:u.1≤1099511627776→IntKind.i64.wrap (u.1:Int)=(u.1:Int):=fun h=>w64 om om
 have f1:(n=n+1)=False:=osi
 have f2:(n+1=n)=False:=osi
 refine Ret.fin ?_
 refine fw func60 ntmps60 results60 ?_
 refine rg zs [1,2] ?_
 refine Za fun K1 hK1=> ?_
 refine rg zs [1,2,14] ?_
 refine Zb ?_ ?_<;>intro hb
 ·have h0:q.token.length=0:=by have h9:=hb;simp at h9;simp[h9]
  rw[if_pos h0]at hz
  have hzz:z=(0,[],0):=hz
  exact kaE
 have h0:¬q.token.length=0:=by have h9:=hb;simp at h9;simp[h9]
 rw[if_neg h0]at hz
 refine kay ?_
 refine rk zs [1,2,4,5,6] fun K V=> ?_
 refine ck func97 ((hfr▸Lx q.token om _ _)) ?_
 refine kas ?_
 refine Za fun K2 hK2=> ?_
 refine rg zs [1,2,4,31] ?_
 refine Zb ?_ ?_<;>intro hb
 ·have hc1:fr.2.2≠0∨fr.2.1≠(q.token.length:Int):=by by_cases h:fr.2.2=0;(right;rw[h]at hb;simpa using hb);exact .inl h
  have hzz:z=(0,[],132):=by
    rw[hz]
    split;rfl;split;rfl;split;rfl
    rename_i a1 a2 a3
    exfalso
    have a1:fr.2.2=0:=by simpa using a1
    refine hc1.elim (fun h=>h a1) (fun h=>h (hend (u.1:Int) rb.1 a1 (by simpa using hbm) ?_))
    cases e:(tokB q (u.1:Int) rb.1==q.token)with
    | true=>rfl
    | false=>exact absurd (.inr (.inr (.inr e))) a3
  exact kaE
 have hc1:fr.2.2=0:=by by_cases h:fr.2.2=0;exact h;(rw[show(fr.2.2 !=0)=true by simpa using h]at hb;cases hb)
 rw[if_neg (by simp[hc1])]at hz
 refine kaQ ?_
 refine rk zs [1,2,4,6,7,8] fun K V=> ?_
 refine ck func98 ((hu▸Ql fr.1 0 om om _ _)) ?_
 refine kas ?_
 refine Za fun K3 hK3=> ?_
 refine rg zs [1,2,4,7,8,60] ?_
 refine Zb ?_ ?_<;>intro hb
 ·have hc : u.2.2 ≠ 0 ∨ u.1 < 1 ∨ 1099511627776 < u.1 ∨ (q.time ≠ 0 ∧ u.1 ≠ u64 q.time) := by
    by_cases c1:u.2.2=0<;>by_cases c2:u.1<1<;>by_cases c3:1099511627776<u.1
    all_goals first | exact .inl c1 | exact .inr (.inl c2) | exact .inr (.inr (.inl c3)) | skip
    have:=hxT om
    have c5:=hTu u.1 om
    simp[c1,this]at hb
    exact .inr (.inr (.inr ⟨om,c5.2 om⟩))
  have hzz:z=(0,[],132):=by rw[hz,if_pos hc]
  refine rg zs [2,3] ?_
  refine ar ?_
  rw[hzz]
  exact⟨_,rfl,fun k hk=>oh,.tup (.cons (.agg (.cons (XN (by simp[h0])) (.cons (.kl trivial) (.cons .nilsl .nil)))) (.cons (.kl trivial) .nil))⟩
 have hc:¬(u.2.2≠0∨u.1<1∨1099511627776<u.1∨(q.time≠0∧u.1≠u64 q.time)):=by
   rintro(c1 | c1 | c1 | ⟨c1,c2⟩)
   ·rw[show(u.2.2 !=0)=true by simpa using c1]at hb;simp at hb
   ·simp[show decide ((u.1:Int)<1)=true from decide_eq_true om]at hb
   ·exact kcO
   ·by_cases c3:u.1≤1099511627776
    ·have c5:=(hTu u.1 c3).1 c2;simp[hxT c3,c1,c5]at hb
    ·exact kcO
 rw[if_neg hc]at hz
 have hx:IntKind.i64.wrap (u.1:Int)=(u.1:Int):=hxT om
 refine kba ?_
 refine rk zs [1,2,6,7,9] fun K V=> ?_
 refine ck func99 ((hrb▸LA fr.1 u.2.1 256 om om om _ _)) ?_
 refine kas ?_
 refine Za fun K4 hK4=> ?_
 refine dx zs [2,7,9,92] [.m,.q,.m,.m,.q,.q,.q,.m,.q,.m,.c,.q,.q,.m,.q,.m,.q,.m,.c,.q,.q,.c,.q,.q] [0,1,2,3,4,5,6,7,8,9,10,11,12,13,14,15,16,17,18,19,20,21,22,23] [0,1,2,3,4,5,6,7,8,9,10,11,12,13,14,15,16,17,18,19,20,21,22,23] fun K V=> ?_
 refine cq func89 (fun _ n=>(Pb q rb.1 _ _)) ?_
 refine cq func91 (fun _ n=>(c_ref13_token q hq u.1 rb.1 hbm _ _)) ?_
 refine cq func46 (fun _ n=>(Y9 (tokB q u.1 rb.1) q.token _ _)) ?_
 refine kas ?_
 refine Zb ?_ ?_<;>intro hb
 ·have hc2:rb.2.2≠0∨rb.1.length=0∨YU q rb.1=false∨(tokB q u.1 rb.1==q.token)=false:=by grind
  have hzz:z=(0,[],132):=by rw[hz,if_pos hc2]
  exact kaE
 have hc2:¬(rb.2.2≠0∨rb.1.length=0∨YU q rb.1=false∨(tokB q u.1 rb.1==q.token)=false):=by grind
 have hzz:z=(((u.1:Nat):Int),rb.1,0):=by rw[hz,if_neg hc2]
 refine kb3 ?_
 refine rg zs [2,3] ?_
 refine ar ?_
 rw[hzz]
 exact⟨_,rfl,fun k hk=>oh,.tup (.cons (.agg (.cons (XN (by simp[h0])) (.cons (.kl trivial) (.cons (.kl (WQ _ _)) .nil)))) (.cons (.kl trivial) .nil))⟩
theorem fits_time {nf:Nat} {q:QryE} (h:Ym nf q=true):0≤q.time∧q.time≤1099511627776:=by
 unfold Ym VN at h
 simp only[Bool.and_eq_true,decide_eq_true_eq]at h
 exact⟨h.2.1.1.1.1.1.2,h.2.1.1.1.1.2⟩
theorem where_rel {fs:List Fml} (h:ZC fs=0) (t:List UInt8):((0≤(Qz fs t).2)↔(Xa fs t).2.1≠0)∧(0≤(Qz fs t).2→(Xa fs t).2.1=131):=by
 have hr:=readR_rel fs t
 unfold Xa
 rw[if_neg (by simp[h])]
 cases hp:WI fs t with
 | ok x=>rw[hp]at hr;rw[hr.1];simp
 | error p=>rw[hp]at hr;have hr:(Qz fs t).2=p:=hr;rw[hr];simp
theorem NHl2.eqs {P Q:Prop} (g:Imp P Q:=by(try simp only[go_sem,seval,hsz,hag,hmo,hszs,hags,hmos,f1,f2,hA,hB,Zi,Zf,Zx,bys,List.length_map,YS,YL,Yw,Yb]);exact Imp.rf):Imp P Q:=g
set_option maxHeartbeats 1600000 in
open NHl2 NY in
theorem JG (fs:List Fml) (hfs:fs.length≤1048576) (q:QryE) (hq:q.fine) (H:Heap) (n:Nat):Ret prog 38 [Zi fs,Zf q] H n (.int .i64 (qcE fs q)) H n:=by
 have hsz:(Zf q).sz=10:=Z9 q
 have hag:(Zf q).isAgg=true:=rfl
 have hmo:(Zf q).memOK=true:=rfl
 have hszs:(Zi fs).sz=1:=rfl
 have hags:(Zi fs).isAgg=true:=rfl
 have hmos:(Zi fs).memOK=true:=rfl
 have hms:(Nt q).sz=3:=rfl
 obtain⟨z,hz⟩:∃z,z=qcE fs q:=⟨_,rfl⟩
 rw[←hz]
 unfold qcE at hz
 have f1:(n=n+1)=False:=osi
 have f2:(n+1=n)=False:=osi
 have hA:=hsz
 have hB:=hsz
 refine Ret.fin ?_
 refine fw func38 ntmps38 results38 ?_
 refine rg zs [2,3] ?_
 refine rc zs [2,3,5] func69 ((JZ fs _ _)) ?_
 refine Z6 [2,3,5] (fun T' H' n'=>∃e:Int,e=(if ZC fs≠0 then ZC fs else if Ym fs.length q then 0 else 130)∧T'=tl [(2,.loc n 0 0 0 []),(3,.loc (n+1) 0 0 0 []),(5,.int .i64 e)]∧H' n=some (.arr 0 1 [Zi fs])∧H' (n+1)=some (.arr 0 10 [Zf q])∧(∀k,k<n→H' k=H k)∧n'=n+2) ?_ ?_
 ·refine rg zs [2,3,5,11] ?_
  refine Zb ?_ ?_<;>intro hb
  ·have hs0:ZC fs=0:=osb
   have he0:∀a b:Int,(if ZC fs≠0 then a else b)=b:=fun a b=>if_neg (by simp[hs0])
   refine rc1 zs [2,3,5] func70 ((Pf fs hfs q hq.fams _ _)) ?_
   refine ns ?_
   exact⟨_,(he0 _ _).symm,rfl,fun k hk=>onn⟩
  have hs0:ZC fs≠0:=osb
  have he0:∀a b:Int,(if ZC fs≠0 then a else b)=a:=fun a b=>if_pos hs0
  refine ak ?_
  refine ns ?_
  exact⟨_,(he0 _ _).symm,rfl,fun k hk=>onn⟩
 rintro T1 H1 n1 ⟨e,he,rfl,hA,hB,hlow,rfl⟩
 refine Za fun K1 hK1=> ?_
 refine rg zs [2,3,5,16] ?_
 refine Zb ?_ ?_<;>intro hb
 ·have hz2 : z = e := by
    rw[hz,he];rw[he]at hb
    by_cases h1:ZC fs=0
    ·rw[if_neg (by simp[h1])]at hb
     have h2:Ym fs.length q=false:=by cases h2:Ym fs.length q;rfl;(rw[h2]at hb;simp at hb)
     rw[if_neg (by simp[h1]),if_pos h2,if_neg (by simp[h1]),if_neg (by simp[h2])]
    ·rw[if_pos h1,if_pos h1]
  refine rg zs [4] ?_
  refine ar ?_
  rw[←hz2]
  exact⟨_,rfl,fun k hk=>by(try simp only[Pv]);(repeat first | rw[if_pos rfl] | rw[if_pos trivial] | rw[if_neg om]);first | done | exact hlow k hk,.kl trivial⟩
 have hs1:ZC fs=0∧Ym fs.length q=true:=by
   rw[he]at hb
   by_cases h1:ZC fs=0
   ·rw[if_neg (by simp[h1])]at hb;refine⟨h1,?_⟩;cases h2:Ym fs.length q;(rw[h2]at hb;simp at hb);rfl
   ·rw[if_pos h1]at hb;simp at hb;exact absurd hb h1
 rw[if_neg (by simp[hs1.1]),if_neg (by simp[hs1.2])]at hz
 refine kay ?_
 refine Za fun K2 hK2=> ?_
 refine rg zs [2,3,20] ?_
 refine Zb ?_ ?_<;>intro hb
 ·have hw0:0<q.whr.length:=by have h9:=hb;simp at h9;exact List.length_pos_iff.2 h9
  refine rc zs [3,7] func71 ((c_ref13_read fs hfs q.whr _ _)) ?_
  refine rg zs [3,29] ?_
  refine Zb ?_ ?_<;>intro hb
  ·have hz2:z=131:=by have h9:=of_decide_eq_true hb;obtain⟨w1,w2⟩:=where_rel hs1.1 q.whr;rw[hz,if_pos ⟨hw0,w1.1 h9⟩];exact w2 h9
   refine kag ?_
   rw[←hz2]
   exact kaO
  have h29:=of_decide_eq_false hb
  rw[if_neg (fun h=>h29 ((where_rel hs1.1 q.whr).1.2 h.2))]at hz
  refine kaQ ?_
  refine rk zs [5] fun K V=> ?_
  refine ck func60 ((QV q hq (by have:=fits_time hs1.2;omega) _ _)) ?_
  refine kas ?_
  refine kag ?_
  rw[hz]
  exact kaO
 have hw0:q.whr.length=0:=by have h9:=hb;simp at h9;simp[h9]
 rw[if_neg om]at hz
 refine kaQ ?_
 refine rk zs [5] fun K V=> ?_
 refine ck func60 ((QV q hq (by have:=fits_time hs1.2;omega) _ _)) ?_
 refine kas ?_
 refine kag ?_
 rw[hz]
 exact kaO
instance:Inhabited CR:=⟨CR.none⟩
theorem ND10.eqs {P Q:Prop} (g:Imp P Q:=by(try simp only[go_sem,seval,hszs,hags,hmos,hsz,hag,hmo,YS,YL,Yw,Yb,f1,f2,f3,f4,hnth,e1,r1,r2,r3,Nat.add_assoc,List.length_map,Int.toNat_natCast,PK,Zp]);exact Imp.rf):Imp P Q:=g
theorem ND11.eqs {P Q:Prop} (g:Imp P Q:=by(try simp only[go_sem,seval,hszs,hags,hmos,hsz,hag,hmo,YS,YL,Yw,Yb,f1,f2,f3,f4,hnth,e1,Nat.add_assoc,List.length_map,Int.toNat_natCast,List.map_cons,List.map_nil,List.length_cons,List.length_nil,Zp]);exact Imp.rf):Imp P Q:=g
theorem ND12.eqs {P Q:Prop} (g:Imp P Q:=by(try simp only[go_sem,seval,hszs,hags,hmos,hsz,hag,hmo,YS,YL,Yw,Yb,f1,f2,f3,f4,hn2,hx,Y8,Zi,Nat.add_assoc,List.length_map,Int.toNat_natCast,PK,Zp]);exact Imp.rf):Imp P Q:=g
theorem ND13.eqs {P Q:Prop} (g:Imp P Q:=by(try simp only[go_sem,seval,hszs,hags,hmos,hsz,hag,hmo,YS,YL,Yw,Yb,f1,f2,f3,f4,hnth,e1,Nat.add_assoc,List.length_map,Int.toNat_natCast,PK,Zp]);exact Imp.rf):Imp P Q:=g
theorem ND14.eqs {P Q:Prop} (g:Imp P Q:=by(try simp only[go_sem,seval,hszs,hags,hmos,hsz,hag,hmo,YS,YL,Yw,Yb,f1,f2,f3,f4,Zt,List.drop_zero,Option.getD_some,Option.getD_none,Int.toNat_zero,Nat.add_assoc,List.length_map,Int.toNat_natCast,PK,Zp]);exact Imp.rf):Imp P Q:=g
structure WantOK (fs:List Fml) (q:QryE):Prop where
 sch:ZC fs=0
 ok:0<q.whr.length→∃x,WI fs q.whr= .ok x
theorem ND20.eqs {P Q:Prop} (g:Imp P Q:=by(try simp only[go_sem,seval,hszs,hags,hmos,hszq,hagq,hmoq,hszr,hagr,hmor,hcs,hca,hcm,f1,f2,f3,f4,b1,b2,b3,b4,b5,hnth,hnf,e1,e2,g1,g2,g3,g4,g5,YS,YL,Yw,Yb,Nat.add_assoc,List.length_map,Int.toNat_natCast,Zt,List.drop_zero,Option.getD_some,Option.getD_none,Int.toNat_zero,Zg,Zp,Zf,Zx,bys]);exact Imp.rf):Imp P Q:=g
theorem ND30.eqs {P Q:Prop} (g:Imp P Q:=by(try simp only[go_sem,seval,hszs,hags,hmos,hszq,hagq,hmoq,hszr,hagr,hmor,f1,f2,f3,hnth,e1,b1,b3,he,hle,hge,Nat.add_assoc,List.length_map,Int.toNat_natCast,Zt,Zg,Zp,Zf,Zx,bys,Zi]);exact Imp.rf):Imp P Q:=g
theorem ND40.eqs {P Q:Prop} (g:Imp P Q:=by(try simp only[go_sem,seval,hsz,hag,hmo,f1,Nt,Zf,Zx,bys,List.length_map]);exact Imp.rf):Imp P Q:=g
theorem ND41.eqs {P Q:Prop} (g:Imp P Q:=by(try simp only[go_sem,seval,hsz,hag,hmo,f1,hst,hql,Nt,Zf,Zx,bys,List.length_map,Yg]);exact Imp.rf):Imp P Q:=g
theorem kl_row (r:RowE) (n:Nat):(Zg r).kl n:=⟨WQ _ _,Wo Zp (fun c=>⟨trivial,WQ _ _,trivial,WQ _ _,trivial⟩) _,trivial⟩
theorem ND50.eqs {P Q:Prop} (g:Imp P Q:=by(try simp only[go_sem,seval,hszs,hags,hmos,hszq,hagq,hmoq,hrs,hra,hrm,f1,f2,f3,b1,b2,b3,b4,b5,b6,hnth,e1,g1,g2,g3,g4,g5,YY,Vp,Nat.add_assoc,List.length_map,Int.toNat_natCast,Zg,Zf,Zx,bys]);exact Imp.rf):Imp P Q:=g
theorem lists_eq {α:Type} [Inhabited α] {a b:List α} (hl:a.length=b.length) (h:∀j,j<a.length→a.getD j default=b.getD j default):a=b:=
 List.ext_getElem hl fun i h1 h2=>by have:=h i h1;simpa [List.getD,List.getElem?_eq_getElem h1,List.getElem?_eq_getElem h2]using this
theorem celE_eq (a b:CelE):(a=b)↔a.fam=b.fam∧a.ts=b.ts∧a.qual=b.qual∧a.value=b.value:=by
 cases a;cases b;simp only[CelE.mk.injEq];constructor<;>(rintro⟨h1,h2,h3,h4⟩;exact⟨h1,by assumption,by assumption,by assumption⟩)
theorem ND60.eqs {P Q:Prop} (g:Imp P Q:=by(try simp only[go_sem,seval,hcs,hca,hcm,m1,m2,e1,List.length_map,Int.toNat_natCast,Zp]);exact Imp.rf):Imp P Q:=g
theorem ND60.sd {P:Prop} (g:P:=by first | exact⟨om,om⟩ | exact fun _=>⟨om,om⟩ | (intro _ h9;rw[h9];rfl) | fail):P:=g
set_option maxRecDepth 100000 in
set_option maxHeartbeats 3200000 in
open ND60 NZ in
theorem KC (a b:List CelE) (ha:a.length≤1048576) (hb9:b.length≤1048576) (H:Heap) (n:Nat):Ret prog 75 [.sl 4 (a.map Zp),.sl 4 (b.map Zp)] H n (.bool (decide (a=b))) H n:=by
 have hcs:∀c,(Zp c).sz=4:=Xx
 have hca:∀c,(Zp c).isAgg=true:=fun _=>rfl
 have hcm:∀c,(Zp c).memOK=true:=fun _=>rfl
 have m1:=hcs
 have m2:=hcs
 have e1:=hcs
 refine fw func75 ntmps75 results75 ?_
 refine kb1 ?_
 refine Za fun K1 hK1=> ?_
 refine rg zs [0,1,10] ?_
 refine Zb ?_ ?_<;>intro hb
 ·have hlen:a.length≠b.length:=by have h9:=hb;simp at h9;omega
  have hres:decide (a=b)=false:=decide_eq_false fun e=>hlen (by rw[e])
  refine kag ?_
  rw[hres]
 have hlen:a.length=b.length:=by have h9:=hb;simp at h9;omega
 refine kay ?_
 refine Za fun K2 hK2=> ?_
 refine rg zs [0,1,5] ?_
 refine kbM ?_
 refine Zo (fun T' H' n'=>∃i:Nat,i≤a.length∧(∀j,j<i→a.getD j default=b.getD j default)∧T'=tl [(0,.sl 4 (a.map Zp)),(1,.sl 4 (b.map Zp)),(5,.int .i64 i)]∧H'=H∧n'=n) (fun T' _ _=>a.length-iv (T' 5)) ?_ ?_
 ·exact kcy
 rintro T1 H1 n1 ⟨i,hi,hfa,rfl,rfl,rfl⟩
 refine Za fun K3 hK3=> ?_
 refine rg zs [0,1,5,14] ?_
 refine Zb ?_ ?_<;>intro hb
 ·have hci:i<a.length:=ott
  have m1:nth (a.map Zp) i=Zp (a.getD i default):=Zw Zp a i hci
  have m2:nth (b.map Zp) i=Zp (b.getD i default):=Zw Zp b i om
  have e1:IntKind.i64.wrap ((i:Int)+1)=((i+1:Nat):Int):=w1 om
  obtain⟨x,hx⟩:∃x,x=a.getD i default:=⟨_,rfl⟩
  obtain⟨y,hy⟩:∃y,y=b.getD i default:=⟨_,rfl⟩
  rw[←hx]at m1
  rw[←hy]at m2
  refine kba ?_
  refine bk fun K4 hK4=> ?_
  refine dx zs [0,1,5,68] [.m,.m,.q,.q,.q,.m,.m,.q,.q,.q,.q,.m,.m,.m,.q,.q,.q,.m,.m,.q,.q,.q,.q,.q,.m,.m,.m,.q,.q,.q,.m,.m,.q,.q,.q,.c,.q,.q,.m,.m,.m,.q,.q,.q,.m,.m,.q,.q,.q,.c,.q,.q] [0,1,2,3,4,5,6,7,8,9,10,11,12,13,14,15,16,17,18,19,20,21,22,23,24,25,26,27,28,29,30,31,32,33,34,35,36,37,38,39,40,41,42,43,44,45,46,47,48,49,50,51] [0,1,2,3,4,5,6,7,8,9,10,11,12,13,14,15,16,17,18,19,20,21,22,23,24,25,26,27,28,29,30,31,32,33,34,35,36,37,38,39,40,41,42,43,44,45,46,47,48,49,50,51] fun K V=> ?_
  refine cq func46 (fun _ n=>(Y9 x.qual y.qual _ _)) ?_
  refine cq func46 (fun _ n=>(Y9 x.value y.value _ _)) ?_
  refine kas ?_
  refine Zb ?_ ?_<;>intro hb
  ·have hne : a ≠ b := fun e => by
     subst e
     have:x=y:=hx.trans hy.symm
     subst this
     simp at hb
   have hres:decide (a=b)=false:=decide_eq_false hne
   refine rg zs [4] ?_
   refine ar ?_
   rw[hres]
  have hxy:x=y:=by
    refine(celE_eq x y).2 ?_
    have h9:=hb
    simp at h9
    exact⟨h9.1.1.1,h9.1.1.2,h9.1.2,h9.2⟩
  exact kbi
 have hci:i=a.length:=otf
 have hres:decide (a=b)=true:=decide_eq_true (lists_eq hlen (hci▸hfa))
 refine ax ?_
 apply hK2
 refine kag ?_
 rw[hres]
theorem ND61.eqs {P Q:Prop} (g:Imp P Q:=by(try simp only[go_sem,seval,hcs,hca,hcm,m1,m2,e1,List.length_map,Int.toNat_natCast,Zg]);exact Imp.rf):Imp P Q:=g
theorem ND61.sd {P:Prop} (g:P:=by first | exact⟨om,om⟩ | exact fun _=>⟨om,om⟩ | (intro _ h9;rw[h9];rfl) | fail):P:=g
open ND61 NZ in
theorem UN (a b:List RowE) (ha:a.length≤1048576) (hb9:b.length≤1048576) (hac:∀x∈a,x.cells.length≤1048576) (hbc:∀x∈b,x.cells.length≤1048576) (H:Heap) (n:Nat):Ret prog 43 [.sl 2 (a.map Zg),.sl 2 (b.map Zg)] H n (.bool (decide (a=b))) H n:=by
 have hcs:∀c,(Zg c).sz=2:=VE
 have hca:∀c,(Zg c).isAgg=true:=fun _=>rfl
 have hcm:∀c,(Zg c).memOK=true:=fun _=>rfl
 have m1:=hcs
 have m2:=hcs
 have e1:=hcs
 refine fw func43 ntmps43 results43 ?_
 refine kb1 ?_
 refine Za fun K1 hK1=> ?_
 refine rg zs [0,1,10] ?_
 refine Zb ?_ ?_<;>intro hb
 ·have hlen:a.length≠b.length:=by have h9:=hb;simp at h9;omega
  have hres:decide (a=b)=false:=decide_eq_false fun e=>hlen (by rw[e])
  refine kag ?_
  rw[hres]
 have hlen:a.length=b.length:=by have h9:=hb;simp at h9;omega
 refine kay ?_
 refine Za fun K2 hK2=> ?_
 refine rg zs [0,1,5] ?_
 refine kbM ?_
 refine Zo (fun T' H' n'=>∃i:Nat,i≤a.length∧(∀j,j<i→a.getD j default=b.getD j default)∧T'=tl [(0,.sl 2 (a.map Zg)),(1,.sl 2 (b.map Zg)),(5,.int .i64 i)]∧H'=H∧n'=n) (fun T' _ _=>a.length-iv (T' 5)) ?_ ?_
 ·exact kcy
 rintro T1 H1 n1 ⟨i,hi,hfa,rfl,rfl,rfl⟩
 refine Za fun K3 hK3=> ?_
 refine rg zs [0,1,5,14] ?_
 refine Zb ?_ ?_<;>intro hb
 ·have hci:i<a.length:=ott
  have m1:nth (a.map Zg) i=Zg (a.getD i default):=Zw Zg a i hci
  have m2:nth (b.map Zg) i=Zg (b.getD i default):=Zw Zg b i om
  have e1:IntKind.i64.wrap ((i:Int)+1)=((i+1:Nat):Int):=w1 om
  have hac1:=hac _ (YI a hci)
  have hbc1:=hbc _ (YI b (show i<b.length by omega))
  obtain⟨x,hx⟩:∃x,x=a.getD i default:=⟨_,rfl⟩
  obtain⟨y,hy⟩:∃y,y=b.getD i default:=⟨_,rfl⟩
  rw[←hx]at m1 hac1
  rw[←hy]at m2 hbc1
  refine kba ?_
  refine bk fun K4 hK4=> ?_
  refine dx zs [0,1,5,42] [.m,.m,.q,.q,.q,.m,.m,.q,.q,.q,.c,.q,.m,.m,.m,.q,.q,.q,.m,.m,.q,.q,.q,.c,.q,.q] [0,1,2,3,4,5,6,7,8,9,10,11,12,13,14,15,16,17,18,19,20,21,22,23,24,25] [0,1,2,3,4,5,6,7,8,9,10,11,12,13,14,15,16,17,18,19,20,21,22,23,24,25] fun K V=> ?_
  refine cq func46 (fun _ n=>(Y9 x.row y.row _ _)) ?_
  refine cq func75 (fun _ n=>(KC x.cells y.cells hac1 hbc1 _ _)) ?_
  refine kas ?_
  refine Zb ?_ ?_<;>intro hb
  ·have hne : a ≠ b := fun e => by
     subst e
     have:x=y:=hx.trans hy.symm
     subst this
     simp at hb
   have hres:decide (a=b)=false:=decide_eq_false hne
   refine rg zs [4] ?_
   refine ar ?_
   rw[hres]
  have hxy:x=y:=by
    have h9:=hb
    simp at h9
    cases x;cases y;simp only[RowE.mk.injEq];exact h9
  exact kbi
 have hci:i=a.length:=otf
 have hres:decide (a=b)=true:=decide_eq_true (lists_eq hlen (hci▸hfa))
 refine ax ?_
 apply hK2
 refine kag ?_
 rw[hres]
theorem pgE_eq (a b:PgE):(a=b)↔a.done=b.done∧a.token=b.token∧a.rows=b.rows:=by
 cases a;cases b;simp only[PgE.mk.injEq];constructor<;>(rintro⟨h1,h2,h3⟩;exact⟨by assumption,by assumption,by assumption⟩)
theorem ND62.eqs {P Q:Prop} (g:Imp P Q:=by(try simp only[go_sem,seval,hza,hzb,f1,pgAV,bys]);exact Imp.rf):Imp P Q:=g
theorem ND62.sd {P:Prop} (g:P:=by first | (intro _ h9;rw[h9];rfl) | fail):P:=g
open ND62 NZ in
theorem LC (a b:PgE) (ha:a.rows.length≤1048576) (hb9:b.rows.length≤1048576) (hac:∀x∈a.rows,x.cells.length≤1048576) (hbc:∀x∈b.rows,x.cells.length≤1048576) (H:Heap) (n:Nat):Ret prog 21 [pgAV a,pgAV b] H n (.bool (decide (a=b))) H n:=by
 have hza:(pgAV a).sz=3:=rfl
 have hzb:(pgAV b).sz=3:=rfl
 have f1:(n=n+1)=False:=osi
 refine Ret.fin ?_
 refine fw func21 ntmps21 results21 ?_
 refine rg zs [2,3] ?_
 refine rk zs [4] fun K V=> ?_
 refine cg func46 (fun _=>(Y9 a.token b.token _ _)) ?_
 refine cg func43 (fun _=>(UN a.rows b.rows ha hb9 hac hbc _ _)) ?_
 refine kas ?_
 refine ar ?_
 refine⟨_,rfl,fun k hk=>oh,Frz.eq ?_ trivial⟩
 rw[show decide (a=b)=decide (a.done=b.done∧a.token=b.token∧a.rows=b.rows)from decide_eq_decide.2 (pgE_eq a b)]
 by_cases h1:a.done=b.done<;>by_cases h2:a.token=b.token<;>by_cases h3:a.rows=b.rows<;>simp[h1,h2,h3]
open N0 in
theorem Qd (a b:List UInt8) (H:Heap) (n:Nat):Ret prog 26 [bys a,bys b] H n (.bool (a==b)) H n:=by
 refine fw func26 ntmps26 results26 ?_
 refine kb1 ?_
 refine rc zs [4] func46 ((Y9 a b _ _)) ?_
 refine ar ?_
 trivial
open N0 in
theorem Uf (e:Int) (H:Heap) (n:Nat):Ret prog 20 [.int .i64 e] H n (.int .i64 e) H n:=by
 refine fw func20 ntmps20 results20 ?_
 refine kcu ?_
 refine kal ?_
 trivial
theorem NE10.eqs {P Q:Prop} (g:Imp P Q:=by(try simp only[go_sem,seval,hza,haa,hma,hzb,hab,hmb,f1,m1,m2,e1,Zf,Zx,bys,List.length_map,Int.toNat_natCast]);exact Imp.rf):Imp P Q:=g
structure LdS (q:QryE) (k1 k2 k3 k4 kw kf vf:Nat) (H:Heap):Prop where
 h1:H k1=some (VZ (k1,q.frm))
 h2:H k2=some (VZ (k2,q.to))
 h3:H k3=some (VZ (k3,q.pre))
 h4:H k4=some (VZ (k4,q.token))
 hw:H kw=some (.arr 0 1 [WC (k1,q.frm),WC (k2,q.to),WC (k3,q.pre),WC (k4,q.token)])
 hf:H kf=some (.arr vf 1 ((q.fams++[-77]).map fun x:Int=>(.int .i64 x:AV)))
 d:(k1≠k2∧k1≠k3∧k1≠k4∧k2≠k3∧k2≠k4∧k3≠k4)∧(kw≠k1∧kw≠k2∧kw≠k3∧kw≠k4)∧(kf≠k1∧kf≠k2∧kf≠k3∧kf≠k4∧kf≠kw)
def laidQ (q:QryE) (k1 k2 k3 k4 kf vf:Nat):AV:=qaX q (.osl k1 2 0 q.frm.length) (.osl k2 2 0 q.to.length) (.osl kf vf 0 q.fams.length) (.osl k3 2 0 q.pre.length) (.osl k4 2 0 q.token.length)
def laidAV (q:QryE) (k1 k2 k3 k4 kw kf vf:Nat):AV:= .agg [laidQ q k1 k2 k3 k4 kf vf,.osl kw 0 0 4,.osl kf vf 0 (q.fams.length+1)]
theorem NE20.eqs {P Q:Prop} (g:Imp P Q:=by(try simp only[go_sem,seval,hsz,hag,hmo,f1,f2,f3,f4,f5,hE,Zf,Zx,bys,Nat.add_assoc,List.length_map,List.length_append,Int.toNat_natCast,Option.getD_some,Option.getD_none,Nat.sub_zero]);exact Imp.rf):Imp P Q:=g
theorem NE21.eqs {P Q:Prop} (g:Imp P Q:=by(try simp only[go_sem,seval,hsz,hag,hmo,f1,f2,b1,b2,b3,b4,g1,g2,g3,g4,hnth,e1,e2,e3,e4,hfn,hf0,g5,g6,hpo1,laidAV,laidQ,qaX,Zf,Zx,bys,WC,Nat.add_assoc,List.length_map,List.length_append,List.length_cons,List.length_nil,Int.toNat_natCast,Option.getD_some,Option.getD_none,Nat.zero_add]);exact Imp.rf):Imp P Q:=g
theorem NE30.eqs {P Q:Prop} (g:Imp P Q:=by(try simp only[go_sem,seval,hO,hW,hT,hrs,e1,e2,e3,e4,e5,g5,g6,hnth,hpo1,b1,b2,b4,WC,Nat.add_assoc,List.length_map,List.length_append,List.length_cons,List.length_nil,Int.toNat_natCast,Option.getD_some,Option.getD_none,Nat.zero_add]);exact Imp.rf):Imp P Q:=g
theorem NE40.eqs {P Q:Prop} (g:Imp P Q:=by(try simp only[go_sem,seval,hszs,hags,hmos,hszq,hagq,hmoq,hszp,hagp,hmop,f1,f2,f3,b1,b2,b3,b4,b5,b6,d1,d2,d3,d5,e1,e2,e3,e4,Nat.add_assoc,List.length_map,Int.toNat_natCast,Option.getD_some,Option.getD_none]);exact Imp.rf):Imp P Q:=g
end Go.Proofs.YtkmkbndcekklmaaGreatDoor
namespace Go.Sx
open Go
end Go.Sx
set_option maxRecDepth 10000
namespace Go.Proofs.YtkmkbndcekklmaaGreatDoor
open Go Go.Sx Go.Rt Go.Proofs Tryz
theorem _root_.Go.Sx.Zk.adoptO {P : Program} {f : FuncId} {args : List AV} {H : Heap} {n : Nat} {K : ARes → Heap → Nat → Prop} (k esz : Nat) {ver e : Nat} {els els' : List AV} (hk : H k = some (.arr ver e els)) (ha : AdpL n els els')
   (h:Zk P f args ((H.put n (some (.arr 0 esz []))).put k (some (.arr ver e els'))) (n+1) K):Zk P f args H n K:=fun c w vs hs hr=>by
 have hst:=PR hs esz
 have hkn:k≠n:=fun e=>by subst e;rw[(hs.fresh _ (Nat.le_refl _)).1]at hk;simp at hk
 have hst2:=Step.retell (els':=els') hst.sim (k:=k) (by rw[Pw _ _ hkn];exact hk) (fun ds hd=>ha.relF Py hd) ha.len.symm ha.szAll
 exact(h _ w vs (hst.trans hst2).sim (RelT.mono (hst.trans hst2).le _ _ hr)).mono fun e w' ⟨res,c',H',n',V,hst3,hm⟩=>⟨res,c',H',n',V,(hst.trans hst2).trans hst3,hm⟩
def srcN (rows:List RowE) (err:Int):AObj:= .arr 0 5 [.agg [.sl 2 (rows.map Zg),.int .i64 err,.int .i64 0,.nilsl,.nilsl]]
def RunO (ks:Nat) (z:PgE×Nat×Int) (H:Heap) (n:Nat) (res:ARes) (H':Heap) (n':Nat):Prop:=
 n≤n'∧(∀k,k<n→k≠ks→H' k=H k)∧∃a pk,res= .val (.tup [a,.int .i64 z.2.2])∧Own H' a (pgAV z.1) pk∧pk.Nodup∧(∀k∈pk,n≤k∧k<n')
def RunP (ks:Nat) (z:PgE×Nat×Int) (H:Heap) (n:Nat) (res:ARes) (H':Heap) (n':Nat):Prop:=
 n≤n'∧(∀k,k<n→k≠ks→H' k=H k)∧res= .val (.tup [pgAV z.1,.int .i64 z.2.2])
theorem RunO.frz {ks:Nat} {z:PgE×Nat×Int} {H:Heap} {n:Nat} {P:Program} {f:FuncId} {args:List AV} (h:Zk P f args H n (RunO ks z H n)):Zk P f args H n (RunP ks z H n):=
 h.frzS fun res H1 n1 ⟨h1,h2,a,pk,hr,ho,hd,hp⟩=>by
   have e:=PV (j:= .i64) (y:=z.2.2) ho
   exact⟨_,_,fun k=>k∈pk,inferInstance,hr,FzO.own e (fun k hk=>hk),h1,fun k a b=>(Heap.dropS_ne (S:=fun k=>k∈pk) (fun hm=>by have:=hp k hm;omega)).trans (h2 k a b),rfl⟩
theorem LU (fs : List Fml) (hfs : fs.length ≤ 1048576) (q : QryE) (hqf : q.fine) (clock : Int) (rows : List RowE) (err : Int) (hrw : YG rows) (ks : Nat) {H : Heap} {n : Nat} (hG : GOK 1 1 H n) (hs : H ks = some (srcN rows err)) :
   Zk prog 18 [Zi fs,Zf q,.int .i64 clock,.iface 52 (.loc ks 0 0 0 [])] H n (RunO ks (runE fs q clock (some (rows,err))) H n):=
 Zk.below hs fun hks=>by
   refine Zk.adoptO ks 1 (ver:=0) (e:=5) (els:=[.agg [.sl 2 (rows.map Zg),.int .i64 err,.int .i64 0,.nilsl,.nilsl]]) (els':=[.agg [.sl 2 (rows.map Zg),.int .i64 err,.int .i64 0,.osl n 0 0 0,.nilsl]]) hs ⟨Adp.agg ⟨.refl _ _,.refl _ _,.refl _ _,Adp.nilsl _,.refl _ _,trivial⟩,trivial⟩ ?_
   refine Zk.adoptO ks 2 (ver:=0) (e:=5) (els:=[.agg [.sl 2 (rows.map Zg),.int .i64 err,.int .i64 0,.osl n 0 0 0,.nilsl]]) (els':=[UF rows err 0 n 0 0 (n+1) 0 0]) (Px _ _ _) ⟨Adp.agg ⟨.refl _ _,.refl _ _,.refl _ _,.refl _ _,Adp.nilsl _,trivial⟩,trivial⟩ ?_
   obtain⟨H2,hH2⟩:∃x,x=(((((H.put n (some (.arr 0 1 []))).put ks (some (.arr 0 5 [.agg [.sl 2 (rows.map Zg),.int .i64 err,.int .i64 0,.osl n 0 0 0,.nilsl]]))).put (n+1) (some (.arr 0 2 []))).put ks (some (.arr 0 5 [UF rows err 0 n 0 0 (n+1) 0 0]))):Heap):=⟨_,rfl⟩
   rw[←hH2]
   have g1:H2 ks=some (.arr 0 5 [UF rows err 0 n 0 0 (n+1) 0 0]):=by rw[hH2];(try simp only[Pv]);(repeat first | rw[if_pos rfl] | rw[if_pos trivial] | rw[if_neg om])
   have g2:H2 n=some (.arr 0 1 []):=by rw[hH2];(try simp only[Pv]);(repeat first | rw[if_pos rfl] | rw[if_pos trivial] | rw[if_neg om])
   have g3:H2 (n+1)=some (.arr 0 2 []):=by rw[hH2];(try simp only[Pv]);(repeat first | rw[if_pos rfl] | rw[if_pos trivial] | rw[if_neg om])
   have g4:∀k,k<n→k≠ks→H2 k=H k:=fun k a b=>by rw[hH2];(try simp only[Pv]);(repeat first | rw[if_pos rfl] | rw[if_pos trivial] | rw[if_neg om])
   have hne:∀g o,H g=some (.glob o Ul)→g≠ks:=fun g o hg e=>by rw[e,hs]at hg;cases hg
   have hne2:∀g o,H g=some (.glob o Lj)→g≠ks:=fun g o hg e=>by rw[e,hs]at hg;cases hg
   have hG2:GOK 1 1 H2 (n+1+1):=hG.at2 (by
     by_cases hn:(1:Nat)=1
     ·rw[hn];exact g4 _ hG.get (hne _ _ hG.table)
     ·exact g4 _ hG.gek (hne2 _ _ (hG.kindsC hn))) (g4 _ hG.get (hne _ _ hG.table)) om
   have hS:SrcS rows err ks n (n+1) (n+2) 0 0 0 [] [] [] H2 (n+1+1):=⟨g1,g2,fun p hp=>(by cases hp),fun p hp=>(by cases hp),osi,g3,Pile.nil _ _ _,om,fun p hp=>(by cases hp)⟩
   refine(x_query_Run fs hfs q hqf clock rows err hrw ks n (n+1) (n+2) 0 0 hG2 (QL.ro q H2) (fun j hj=>by cases hj) hS).mono ?_
   rintro res H3 n3 ⟨h1,h2,a,pk,vw,vt,kb,tels,tk,hr,ho,hd,hp,_⟩
   exact⟨om,fun k a b=>(h2 k om b om om).trans (g4 k a b),a,pk,hr,ho,hd,fun k hk=>by have:=hp k hk;omega⟩
theorem Uj (fs:List Fml) (hfs:fs.length≤1048576) (q:QryE) (hqf:q.fine) (clock:Int) (rows:List RowE) (err:Int) (hrw:YG rows) (ks:Nat) {H:Heap} {n:Nat} (hG:GOK 1 1 H n) (hs:H ks=some (srcN rows err)):
 Zk prog 18 [Zi fs,Zf q,.int .i64 clock,.iface 52 (.loc ks 0 0 0 [])] H n (RunP ks (runE fs q clock (some (rows,err))) H n):=RunO.frz (LU fs hfs q hqf clock rows err hrw ks hG hs)
theorem NE50.eqs {P Q:Prop} (g:Imp P Q:=by(try simp only[go_sem,seval,hszs,hags,hmos,hszq,hagq,hmoq,f1,f2,f4,Nat.add_assoc,List.length_map,Int.toNat_natCast]);exact Imp.rf):Imp P Q:=g
def twoF:List Fml:=[⟨[97],3,0⟩,⟨[98],3,0⟩]
def XL (i:Nat):RowE:=⟨[114,UInt8.ofNat (49+i)],[⟨0,[120],5,[49]⟩,⟨1,[121],4,[50]⟩]⟩
def Yn:List RowE:=[XL 0,XL 1,XL 2]
open N0 in
theorem X5 (H:Heap) (n:Nat):Ret prog 14 [] H n (Zi twoF) H n:=by
 refine Ret.fin ?_
 refine fw func14 ntmps14 results14 ?_
 refine rg zs [0] ?_
 refine rg zs [0] ?_
 refine ar ?_
 exact⟨_,rfl,fun k hk=>oh,.kl (kl_sch twoF _)⟩
theorem plain_at {i:Nat} (h:i<3):Yn.getD i default=XL i:=by rcases i with _ | _ | _ | i<;>first | rfl | omega
theorem plain_byte {i:Nat} (h:i<3):Zd (UInt8.ofNat (49+i))= .int .u8 ((49+i:Nat):Int):=by rcases i with _ | _ | _ | i<;>first | rfl | omega
theorem NE60.eqs {P Q:Prop} (g:Imp P Q:=by(try simp only[go_sem,seval,e1,e2,e3,e4,g1,g2,g3,g4,g5,g6,hst,Nat.add_assoc]);exact Imp.rf):Imp P Q:=g
theorem NE60.inz {P Q:Prop} (g:Imp P Q:=by refine Imp.up eqs ?_;(repeat (first | (refine Imp.nd ?_ ?_;· first | exact⟨rfl,fun x hx=>by simp only[List.mem_cons,List.not_mem_nil,or_false]at hx;rcases hx with rfl | rfl<;>exact⟨rfl,rfl⟩⟩ | exact⟨1,rfl,rfl⟩) | refine Imp.pl ?_));exact Imp.rf):Imp P Q:=g
set_option maxHeartbeats 1600000 in
open NE60 in
theorem x_law13_plain (H:Heap) (n:Nat):Zk prog 17 [] H n (fun res H' n'=>res= .val (.osl n 3 0 3)∧H' n=some (.arr 3 2 (Yn.map Zg))∧(∀k,k<n→H' k=H k)∧n'=n+19):=by
 have e1:n=n:=rfl
 have e2:n=n:=rfl
 have e3:n=n:=rfl
 have e4:n=n:=rfl
 have g6:n=n:=rfl
 have hst:n=n:=rfl
 have g1:∀k:Nat,(k=k+1)=False:=fun k=>by simp
 have g2:∀k:Nat,(k=k+2)=False:=fun k=>by simp
 have g3:∀k:Nat,(k=k+3)=False:=fun k=>by simp
 have g4:∀k:Nat,(k=k+4)=False:=fun k=>by simp
 have g5:∀k:Nat,(k=k+5)=False:=fun k=>by simp
 refine fw func17 ntmps17 results17 ?_
 refine rg zs [] ?_
 refine rg zs [1] ?_
 refine Za fun K1 hK1=> ?_
 refine ZX 1 2 rfl ?_
 refine rg zs [1,2] ?_
 refine Zq ?_
 refine Zo (fun T' H' n'=>∃i:Nat,i≤3∧T'=tl [(1,.osl n i 0 i),(2,.int .i64 i)]∧H' n=some (.arr i 2 ((Yn.take i).map Zg))∧(∀k,k<n→H' k=H k)∧n'=n+1+6*i) (fun T' _ _=>3-iv (T' 2)) ?_ ?_
 ·exact⟨0,by omega,rfl,by(try simp only[Pv]);(repeat first | rw[if_pos rfl] | rw[if_pos trivial] | rw[if_neg (by omega)]);rfl,fun k hk=>by(try simp only[Pv]);(repeat first | rw[if_pos rfl] | rw[if_pos trivial] | rw[if_neg (by omega)]),rfl⟩
 rintro T1 H1 n1 ⟨i,hi,rfl,b1,hlow,hn1⟩
 refine Za fun K2 hK2=> ?_
 refine rg zs [1,2,5] ?_
 refine Zb ?_ ?_<;>intro hb
 ·have hci:i<3:=by have:=of_decide_eq_true hb;omega
  have e1:IntKind.i64.wrap (49+(i:Int))=((49+i:Nat):Int):=by rw[w64 (by omega) (by omega)];omega
  have e2:IntKind.u8.wrap ((49+i:Nat):Int)=((49+i:Nat):Int):=by rcases i with _ | _ | _ | i<;>first | rfl | omega
  have e3:IntKind.i64.wrap ((i:Int)+1)=((i+1:Nat):Int):=w1 (by omega)
  have e4:(n=n1)=False:=by simp;omega
  refine ak ?_
  apply hK2
  refine bk fun K3 hK3=> ?_
  refine rg zs [1,2,3] ?_
  refine rg zo [1,2,3] ?_
  refine Q3 (n1+5) n1 (ver:=0) (e:=4) (els:=(XL i).cells.map Zp) (vj:=0) (ej:=2) (lj:=[.agg [.sl 1 [.int .u8 114,.int .u8 ((49+i:Nat):Int)],.osl (n1+5) 0 0 2]]) (lj':=[Zg (XL i)]) (by(try simp only[Pv]);(repeat first | rw[if_pos rfl] | rw[if_pos trivial] | rw[if_neg (by omega)]);rfl) (by(try simp only[Pv]);(repeat first | rw[if_pos rfl] | rw[if_pos trivial] | rw[if_neg (by omega)])) (by omega) ⟨FzV.agg ⟨?_,FzV.osl (off:=0) (len:=2) (by simp[XL]),trivial⟩,trivial⟩ ?_
  ·rw[←plain_byte hci];exact .refl _
  have g6:∀j:Nat,(n=n1+j)=False:=fun j=>by simp;omega
  have hst:strip true (Zg (XL i))=Zg (XL i):=rfl
  have hl:(List.map Zg (List.take i Yn)).length=i:=by rw[List.length_map,List.length_take,show Yn.length=3 from rfl];omega
  have hrs:=VE (XL i)
  have hrm:(Zg (XL i)).memOK=true:=rfl
  have hra:(Zg (XL i)).isAgg=true:=rfl
  refine ZJ zs [1,2] fun K J=> ?_
  try simp only[go_sem,seval,e1,e2,e3,e4,g1,g2,g3,g4,g5,g6,hst,Nat.add_assoc,hrs,hrm,hra,b1]
  repeat (first | (refine And.intro ?_ ?_;· first | exact⟨by omega,.inr trivial,by omega,by omega⟩ | exact⟨rfl,fun x hx=>by rw[List.mem_singleton.1 hx];exact⟨hrs,hrm⟩⟩) | refine peel ?_)
  apply J;clear J K
  refine ns ?_
  apply hK3
  refine rg1 zs [1,2] ?_
  refine⟨⟨i+1,by omega,rfl,?_,fun k hk=>by(try simp only[Pv]);(repeat first | rw[if_pos rfl] | rw[if_pos trivial] | rw[if_neg (by omega)]);exact hlow k hk,by omega⟩,by omega⟩
  rw[Jd Yn (show i<Yn.length from hci),plain_at hci]
  (try simp only[Pv]);(repeat first | rw[if_pos rfl] | rw[if_pos trivial] | rw[if_neg (by omega)])
  rw[List.take_of_length_le (by omega),List.map_append];rfl
 have hci:i=3:=by have:=of_decide_eq_false hb;omega
 subst hci
 refine ax ?_
 apply hK1
 refine rg zs [0] ?_
 refine ar ?_
 exact⟨b1,hlow,by omega⟩
theorem NE61.eqs {P Q:Prop} (g:Imp P Q:=by(try simp only[go_sem,seval,List.length_map]);exact Imp.rf):Imp P Q:=g
open NE61 NY in
theorem Xd (b:List UInt8) (hb:b.length≤1099511627776) (H:Heap) (n:Nat):Ret prog 23 [bys b] H n (bys b) H n:=by
 have h9:=QU b hb 0 b.length (Nat.zero_le _) (Nat.le_refl _) H n
 rw[List.drop_zero,List.take_length]at h9
 refine fw func23 ntmps23 results23 ?_
 refine rg zs [0] ?_
 refine rk zs [2] fun K J=> ?_
 refine ck func58 (h9) ?_
 apply J;clear J K
 refine ar ?_
 trivial
theorem NE62.eqs {P Q:Prop} (g:Imp P Q:=by(try simp only[go_sem,seval,hsz,hag,hmo,Zf,Zx,bys,List.length_map,Int.toNat_natCast]);exact Imp.rf):Imp P Q:=g
theorem NE62.sd {P:Prop} (g:P:=by first | exact⟨.inr trivial,om,om⟩ | fail):P:=g
set_option maxHeartbeats 1600000 in
open NE62 NZ in
theorem Pi (q:QryE) (hq:q.fine) (H:Heap) (n:Nat):Ret prog 32 [Zf q] H n (Zf q) H n:=by
 have hsz:(Zf q).sz=10:=Z9 q
 have hag:(Zf q).isAgg=true:=rfl
 have hmo:(Zf q).memOK=true:=rfl
 have h1:=hq.frm
 have h2:=hq.to
 have h3:=hq.pre
 have h4:=hq.token
 have h5:=hq.fams
 refine Ret.fin ?_
 refine fw func32 ntmps32 results32 ?_
 refine rg zs [1,2] ?_
 refine rk zs [1,2] fun K J=> ?_
 refine ck func23 ((Xd q.frm om _ _)) ?_
 apply J;clear J K
 refine rk zs [1,2] fun K J=> ?_
 refine ck func23 ((Xd q.to om _ _)) ?_
 apply J;clear J K
 refine rk zs [1,2] fun K J=> ?_
 refine ck func23 ((Xd q.pre om _ _)) ?_
 apply J;clear J K
 refine rk zs [1,2] fun K J=> ?_
 refine ck func23 ((Xd q.token om _ _)) ?_
 apply J;clear J K
 refine rg zs [1,2,3] ?_
 refine rg zs [1,2] ?_
 refine rg zs [2] ?_
 refine ar ?_
 exact⟨_,rfl,fun k hk=>oh,.kl (kl_qry q _)⟩
def q0:QryE:={frm:=[],to:=[],fams:=[],pre:=[],time:=0,n:=1,rows:=2,rev:=false,whr:=[118,97,108,117,101,32,61,32,34,49,34],token:=[]}
def pg0:PgE:=(runE twoF q0 9 (some (Yn,0))).1
def q1:QryE:={q0 with token:=pg0.token}
theorem plain_ok:YG Yn:=⟨odc,fun x hx=>by simp only[Yn,List.mem_cons,List.not_mem_nil,or_false]at hx;rcases hx with rfl | rfl | rfl<;>refine⟨odc,odc,fun c hc=> ?_⟩<;>simp only[XL,List.mem_cons,List.not_mem_nil,or_false]at hc<;>rcases hc with rfl | rfl<;>decide⟩
theorem YG.drop {l:List RowE} (h:YG l) (k:Nat):YG (l.drop k):=⟨by rw[List.length_drop];have:=h.1;omega,fun x hx=>h.2 x (List.mem_of_mem_drop hx)⟩
theorem NR (H:Heap):KM prog (.fn (.func 14) [] []) [] H (Zi twoF):=fun m=>Zu func14 rfl rfl rfl (X5 H m) ⟨rfl,rfl,rfl⟩
theorem NE70.eqs {P Q:Prop} (g:Imp P Q:=by(try simp only[go_sem,seval,hszq,hagq,hmoq,hszp,hagp,hmop,b1,b2,g1,g2,g3,s2,s3,s4,u2,u3,u4,hn0,pgAV,Zg,bys,Nat.add_assoc,List.length_map,Int.toNat_natCast]);exact Imp.rf):Imp P Q:=g
theorem NE80.eqs {P Q:Prop} (g:Imp P Q:=by(try simp only[go_sem,seval,hszs,hags,hmos,hszq,hagq,hmoq,hszp,hagp,hmop,f1,f2,f3,f4,f5,Nat.add_assoc,List.length_map,Int.toNat_natCast]);exact Imp.rf):Imp P Q:=g
theorem NE90.eqs {P Q:Prop} (g:Imp P Q:=by(try simp only[go_sem,seval,hszs,hags,hmos,hszq,hagq,hmoq,hszp,hagp,hmop,f1,f2,f3,b1,b2,b3,m1,m2,g1,g2,e1,Zx,Nat.add_assoc,List.length_map,Int.toNat_natCast]);exact Imp.rf):Imp P Q:=g
end Go.Proofs.YtkmkbndcekklmaaGreatDoor
set_option maxRecDepth 10000
namespace Go.Proofs.YtkmkbndcekklmaaGreatDoor
open Go Go.Sx Go.Rt Go.Proofs Go.ChangeShapes Go.WideShapes Go.ChangeAt Go.RowKit Tryz
section
variable {H:Type} {enc:TypeId×Value→H} {W:World}
end
theorem bulk_pos {H:Type} (d:DataW H):1≤Rows.uptoBulk d:=by
 cases d with
 | lit l=>exact WV.lit l
 | nil=>exact WV.nil
 | _=>simp[Rows.uptoBulk]
section
variable {H:Type} {enc:TypeId×Value→H} {W:World}
set_option maxRecDepth 100000 in
theorem argRowsB {v : Value} {d : DataW H} {ps : List MemPlace} (hv : Value.okWide prog W .any 0 26 v) (h : DataW.Trod enc prog W 0 (fun _ => true) true 26 v d ps) (hb : Rows.uptoBulk d ≤ 1048576) :
   ∃l:List RowE,Rel (c0 W) (.sl 2 (l.map Zg)) false [v]∧YG l∧l.length+1≤Rows.uptoBulk d:=by
 obtain⟨a,m,h1,h2,h3⟩:=La rRows h
 obtain⟨l,rfl,h4,h5⟩:=J8 (f:=Zg) (q:=rowQ) (fun a m h=>sRow_av2 h) h1
 obtain⟨aa,len,cap,rfl⟩:=okWide_slice underlying26 hv
 refine⟨l,rel_flat h2 (fun h=>by simp[AV.isAgg]at h) (fun _=>rfl),⟨om,fun x hx=> ?_⟩,om⟩
 obtain⟨q1,q2,q3⟩:=rowQ_spec (r:=x) (m:=1048576) (by have:=h5 x hx;omega)
 exact⟨om,om,fun c hc=>by have:=q3 c hc;omega⟩
end
end Go.Proofs.YtkmkbndcekklmaaGreatDoor
set_option maxRecDepth 10000
namespace Go.Proofs.YtkmkbndcekklmaaGreatDoor
open Go Go.Sx Go.Rt Go.Proofs Tryz
theorem sQry_four {a:AV} {m:Nat} (h:SQry a m):4≤m:=by
 obtain⟨xs,rfl,hx,rfl⟩:=h
 obtain⟨x0,xs,rfl,h0,hx⟩:=ZE hx
 obtain⟨x1,xs,rfl,h1,hx⟩:=ZE hx
 obtain⟨x2,xs,rfl,h2,hx⟩:=ZE hx
 obtain⟨x3,xs,rfl,h3,hx⟩:=ZE hx
 obtain⟨x4,xs,rfl,⟨_,_,_,h4⟩,hx⟩:=ZE hx
 obtain⟨x5,xs,rfl,⟨_,_,_,h5⟩,hx⟩:=ZE hx
 obtain⟨x6,xs,rfl,⟨_,_,_,h6⟩,hx⟩:=ZE hx
 simp only[List.map_cons,List.sum_cons]
 omega
theorem qry_four {H:Type} {enc:TypeId×Value→H} {W:World} {v:Value} {d:DataW H} {ps:List MemPlace} (h:DataW.Trod enc prog W 0 (fun _=>true) true 25 v d ps):4≤Rows.uptoBulk d:=by
 obtain⟨a,m,h1,h2,h3⟩:=La rQry h
 have:=sQry_four h1
 omega
end Go.Proofs.YtkmkbndcekklmaaGreatDoor