/- Own layer: lists of one mark alone; the book's lists looked at; walked. Of the program; no condition. -/
import Derived.Test.YtkmkbndcekklmaaGreatDoorPL
import Derived.Test.YtkmkbndcekklmaaGreatDoorPF
import Derived.Test.YtkmkbndcekklmaaGreatDoorPJ
import Derived.Test.YtkmkbndcekklmaaGreatDoorPK
set_option linter.unusedSimpArgs false
set_option linter.unusedVariables false
set_option maxRecDepth 10000
namespace Go.Proofs.YtkmkbndcekklmaaGreatDoor
open Go Go.Sx Go.Rt Go.Proofs Tryz
theorem Mk.all{H:Heap}{k v e:Nat}{m:AV}{n a:Nat}(h:Mk H k v e m m n a):∃els,H k=some (.arr v e els)∧n+a≤els.length∧∀j,j<n+a→nth els j=m:=by
 obtain⟨els,a1,a2,a3⟩:=h;exact⟨els,a1,a2,fun j hj=>by rw[a3 j hj];split<;>rfl⟩
theorem NXb0.eqs{P Q:Prop}(g:Imp P Q:=by(try simp only[go_sem,seval,Zt]);exact Imp.rf):Imp P Q:=g
theorem NXb0.sd{P:Prop}(g:P:=by first | exact Yg _ | fail):P:=g
open NXb0 NZ in
theorem c_law1_same(a b:List UInt8)(H:Heap)(n:Nat):Ret prog 61 [bys a,bys b] H n (.bool (a==b)) H n:=by
 refine fw func61 ntmps61 results61 ?_;refine kb1 ?_;refine kag ?_;trivial
theorem NXb1.eqs{P Q:Prop}(g:Imp P Q:=by(try simp only[go_sem,seval,hH,e1,e2,qg,qd]);exact Imp.rf):Imp P Q:=g
open NXb1 NY in
theorem MN(k v l:Nat)(m:Int)(hl:l≤4398046511104)(els:List AV)(H:Heap)(n:Nat)(hH:H k=some (.arr v 1 els))(hle:l≤els.length)(hm:∀j,j<l→nth els j= .int .u8 m):Ret prog 64 [.osl k v 0 l,.int .u8 m] H n (.bool true) H n:=by
 have e1:=hl;have e2:=hl;refine Ret.fin ?_;refine fw func64 ntmps64 results64 ?_;refine kb1 ?_;refine Za fun K1 hK1=> ?_;refine rg zs [0,1,5] ?_;refine Zq ?_;refine Zk (fun T' H' n'=>∃j:Nat,j≤l∧T'=tl [(0,.osl k v 0 l),(1,.int .u8 m),(5,.int .i64 j)]∧H=H'∧n=n') (fun T' _ _=>l-iv (T' 5)) ?_ ?_
 ·exact⟨0,Nat.zero_le _,rfl,rfl,rfl⟩
 rintro T1 H1 n1 ⟨j,hj,rfl,rfl,rfl⟩;refine Za fun K2 hK2=> ?_;refine rg zs [0,1,5,9] ?_;refine Zb ?_ ?_<;>intro hb
 ·have hlj:j<l:=ott;have e1:IntKind.i64.wrap ((j:Int)+1)=((j+1:Nat):Int):=w1 om;have e2:nth els j= .int .u8 m:=hm j hlj;refine ak ?_;apply hK2;refine bk fun K3 hK3=> ?_;refine rg zs [0,1,5,17] ?_;refine Zb ?_ ?_<;>intro hb
  ·exact absurd hb osi
  refine ak ?_;apply hK3;refine rg1 zs [0,1,5] ?_;exact⟨⟨j+1,om,rfl⟩,by show l-(j+1)<l-j;omega⟩
 refine ax ?_;apply hK1;refine kag ?_;exact⟨_,rfl,.kl trivial⟩
open NXb1 NY in
theorem Us(k v l:Nat)(m:Int)(hl:l≤4398046511104)(els:List AV)(H:Heap)(n:Nat)(hH:H k=some (.arr v 4 els))(hle:l≤els.length)(hm:∀j,j<l→nth els j= .agg [.int .i64 m,.nilsl,.int .i64 0,.nilsl]):Ret prog 62 [.osl k v 0 l,.int .i64 m] H n (.bool true) H n:=by
 have e1:=hl;have e2:=hl;refine Ret.fin ?_;refine fw func62 ntmps62 results62 ?_;refine kb1 ?_;refine Za fun K1 hK1=> ?_;refine rg zs [0,1,5] ?_;refine Zq ?_;refine Zk (fun T' H' n'=>∃j:Nat,j≤l∧T'=tl [(0,.osl k v 0 l),(1,.int .i64 m),(5,.int .i64 j)]∧H=H'∧n=n') (fun T' _ _=>l-iv (T' 5)) ?_ ?_
 ·exact⟨0,Nat.zero_le _,rfl,rfl,rfl⟩
 rintro T1 H1 n1 ⟨j,hj,rfl,rfl,rfl⟩;refine Za fun K2 hK2=> ?_;refine rg zs [0,1,5,9] ?_;refine Zb ?_ ?_<;>intro hb
 ·have hlj:j<l:=ott;have e1:IntKind.i64.wrap ((j:Int)+1)=((j+1:Nat):Int):=w1 om;have e2:nth els j= .agg [.int .i64 m,.nilsl,.int .i64 0,.nilsl]:=hm j hlj;refine ak ?_;apply hK2;refine bk fun K3 hK3=> ?_;refine dx zs [0,1,5,34] [.m,.m,.q,.q,.q,.m,.q,.m,.m,.m,.q,.q,.q,.q,.m,.m,.q,.q,.q,.q,.q,.q,.q] [0,1,2,3,4,5,6,7,8,9,10,11,12,13,14,15,16,17,18,19,20,21,22] [0,1,2,3,4,5,6,7,8,9,10,11,12,13,14,15,16,17,18,19,20,21,22] fun K V=> ?_;apply V;clear V K;refine Zb ?_ ?_<;>intro hb
  ·exact absurd hb (by simp;exact w64 om om)
  refine ak ?_;apply hK3;refine rg1 zs [0,1,5] ?_;exact⟨⟨j+1,om,rfl⟩,by show l-(j+1)<l-j;omega⟩
 refine ax ?_;apply hK1;refine kag ?_;exact⟨_,rfl,.kl trivial⟩
open NXb1 NY in
theorem U3(k v l:Nat)(m:Int)(hl:l≤4398046511104)(els:List AV)(H:Heap)(n:Nat)(hH:H k=some (.arr v 2 els))(hle:l≤els.length)(hm:∀j,j<l→nth els j= .agg [.nilsl,.sl 4 [.agg [.int .i64 m,.nilsl,.int .i64 0,.nilsl]]]):Ret prog 63 [.osl k v 0 l,.int .i64 m] H n (.bool true) H n:=by
 have e1:=hl;have e2:=hl;refine Ret.fin ?_;refine fw func63 ntmps63 results63 ?_;refine kb1 ?_;refine Za fun K1 hK1=> ?_;refine rg zs [0,1,5] ?_;refine Zq ?_;refine Zk (fun T' H' n'=>∃j:Nat,j≤l∧T'=tl [(0,.osl k v 0 l),(1,.int .i64 m),(5,.int .i64 j)]∧H=H'∧n=n') (fun T' _ _=>l-iv (T' 5)) ?_ ?_
 ·exact⟨0,Nat.zero_le _,rfl,rfl,rfl⟩
 rintro T1 H1 n1 ⟨j,hj,rfl,rfl,rfl⟩;refine Za fun K2 hK2=> ?_;refine rg zs [0,1,5,9] ?_;refine Zb ?_ ?_<;>intro hb
 ·have hlj:j<l:=ott;have e1:IntKind.i64.wrap ((j:Int)+1)=((j+1:Nat):Int):=w1 om;have e2:nth els j= .agg [.nilsl,.sl 4 [.agg [.int .i64 m,.nilsl,.int .i64 0,.nilsl]]]:=hm j hlj;refine ak ?_;apply hK2;refine bk fun K3 hK3=> ?_;refine rg zs [0,1,5,39] ?_;refine Zb ?_ ?_<;>intro hb
  ·exact absurd hb osi
  refine ak ?_;apply hK3;refine rg1 zs [0,1,5] ?_;exact⟨⟨j+1,om,rfl⟩,by show l-(j+1)<l-j;omega⟩
 refine ax ?_;apply hK1;refine kag ?_;exact⟨_,rfl,.kl trivial⟩
structure BkS(H:Heap)(kb kL vL kW vW:Nat)(bs:List BL)(ws:List (List UInt8)):Prop where
 ob:H kb=some (.arr 0 2 [.agg [.osl kL vL 0 bs.length,.osl kW vW 0 ws.length]])
 l:H kL=some (.arr vL 1 (bs.map BL.av))
 w:H kW=some (.arr vW 1 (ws.map bys))
 len:bs.length=ws.length
theorem NXb2.eqs{P Q:Prop}(g:Imp P Q:=by(try simp only[go_sem,seval,hsz,hag,hst,hO,hL,hW,e1,e2,e3,qg,qd,qb]);exact Imp.rf):Imp P Q:=g
open NXb2 NY in
theorem U2(kb kL vL kW vW : Nat)(bs : List BL)(ws : List (List UInt8))(H : Heap)(n : Nat)(hB : BkS H kb kL vL kW vW bs ws)(hN : bs.length ≤ 1000000000)(hw : ∀ i, i < bs.length → BlW H (bs.getD i default) (ws.getD i default)):
   Ret prog 28 [.loc kb 0 0 0 []] H n (.bool true) H n:=by
 have hO:=hB.ob;have hL:=hB.l;have hW:=hB.w;have hl:=hB.len;have hsz:∀s:BL,s.av.sz=1:=fun _=>rfl;have hag:∀s:BL,s.av.isAgg=false:=fun _=>rfl;have hst:∀s:BL,strip true s.av=s.av:=fun _=>rfl;have e1:=hN;have e2:=hN;have e3:=hN;refine Ret.fin ?_;refine fw func28 ntmps28 results28 ?_;refine rg zs [0] ?_;refine Za fun K1 hK1=> ?_;refine rg zs [0,3] ?_;refine Zq ?_;refine Zk (fun T' H' n'=>∃i:Nat,i≤bs.length∧T'=tl [(0,.loc kb 0 0 0 []),(3,.int .i64 i)]∧H=H'∧n=n') (fun T' _ _=>bs.length-iv (T' 3)) ?_ ?_
 ·exact⟨0,Nat.zero_le _,rfl,rfl,rfl⟩
 rintro T1 H1 n1 ⟨i,hi,rfl,rfl,rfl⟩;refine Za fun K2 hK2=> ?_;refine rg zs [0,3,10] ?_;refine Zb ?_ ?_<;>intro hb
 ·have hlt:i<bs.length:=ott;have e1:IntKind.i64.wrap ((i:Int)+1)=((i+1:Nat):Int):=w1 om;have e2:nth (bs.map BL.av) i=(bs.getD i default).av:=Zr BL.av bs i hlt;have e3:nth (ws.map bys) i=bys (ws.getD i default):=Zr bys ws i om;have hwi:=hw i hlt;generalize bs.getD i default=s at*;generalize ws.getD i default=w at*;have hsm:∀m,Ret prog 61 [s.av,bys w] H m (.bool true) H m:=fun m=>by
    have h9:=c_law1_same w w (fun _=>none) 0;rw[beq_self_eq_true]at h9;exact Ret.lend trivial (.cons hwi.frz (.cons (.kl (Xg _ _)) .nil)) h9
  refine ak ?_;apply hK2;refine bk fun K3 hK3=> ?_;refine dx zs [0,3,28] [.m,.q,.q,.q,.m,.q,.q,.m,.q,.q,.q,.m,.q,.q,.c,.q] [0,1,2,3,4,5,6,7,8,9,10,11,12,13,14,15] [0,1,2,3,4,5,6,7,8,9,10,11,12,13,14,15] fun K V=> ?_;refine cq func61 (fun _ n=>(hsm _)) ?_;apply V;clear V K;refine Zb ?_ ?_<;>intro hb
  ·exact absurd hb osi
  refine ak ?_;apply hK3;refine rg1 zs [0,3] ?_;exact⟨⟨i+1,om,rfl⟩,by show bs.length-(i+1)<bs.length-i;omega⟩
 refine ax ?_;apply hK1;refine rg zs [2] ?_;refine ar ?_;exact⟨_,rfl,.kl trivial⟩
def ol:AV→Nat
 | .osl _ _ _ l=>l
 | _=>0
theorem NXc0.eqs{P Q:Prop}(g:Imp P Q:=by(try simp only[go_sem,seval,hO,hL,hsz,hmo,hst,hag,hnth,hmw,hk1,b1,e1,e2,e3,e4,qg,qb,qd]);exact Imp.rf):Imp P Q:=g
theorem NXc0.inz{P Q:Prop}(g:Imp P Q:=by refine Imp.up eqs ?_;(repeat (first | (refine Imp.nd ?_ ?_;· first | (simp;omega) | exact⟨rfl,by(simp[AV.sz,AV.memOK];first | done | fail)⟩ | exact⟨by rw[hfl];omega,by rw[Pv];exact hX3 j hlj⟩) | refine Imp.pl ?_));exact Imp.rf):Imp P Q:=g
set_option maxHeartbeats 3200000 in
open NXc0 in
theorem x_law1_Settle(kb kL vL kW vW : Nat)(bs : List BL)(ws : List (List UInt8))(H : Heap)(n : Nat)(hB : BkS H kb kL vL kW vW bs ws)(hN : bs.length ≤ 1000000000)(hw : ∀ i, i < bs.length → BlW H (bs.getD i default) (ws.getD i default))(hlen : ∀ s ∈ bs, s.l ≤ 1099511627776)
   (hd:(bs.map (·.k)).Nodup) (hkn:kb<n∧kL<n) (hk:∀s∈bs,s.k<n∧s.k≠kb∧s.k≠kL):
   Zn prog 30 [.loc kb 0 0 0 []] H n fun res H' n'=>res= .val (.bool true)∧n≤n'∧∀k,k<n→k∉bs.map (·.k)→H' k=H k:=by
 have hkb1:kb∉bs.map (·.k):=fun h=>by obtain⟨s,hs,e⟩:=List.mem_map.1 h;exact(hk s hs).2.1 e
 have hkL1:kL∉bs.map (·.k):=fun h=>by obtain⟨s,hs,e⟩:=List.mem_map.1 h;exact(hk s hs).2.2 e
 have hlo:∀s∈bs,s.k<n+1∧s.k≠n:=fun s hs=>by have:=(hk s hs).1;exact⟨by omega,by omega⟩
 have hB0:∀s∈bs,Bl0 H 1 s:=fun s hs=>by
   obtain⟨i,hi,e⟩:=List.mem_iff_getElem.1 hs;have h9:=(hw i hi).bl0
   rwa [show bs.getD i default=s by simp[List.getD,List.getElem?_eq_getElem hi,e]]at h9
 have hsz:∀s:BL,s.av.sz=1:=fun _=>rfl;have hmo:∀s:BL,s.av.memOK=true:=fun _=>rfl;have hst:∀s:BL,strip true s.av=s.av:=fun _=>rfl;have hag:∀s:BL,s.av.isAgg=false:=fun _=>rfl;have hO:=hN;have hL:=hN;have hnth:=hN;have hmw:=hN;have hk1:=hN;have b1:=hN;have e1:=hN;have e2:=hN;have e3:=hN;have e4:=hN;refine fw func30 ntmps30 results30 ?_;refine rg zs [0] ?_;refine Za fun K1 hK1=> ?_;refine rk zs [0,12] fun K V=> ?_;refine ck func28 ((U2 kb kL vL kW vW bs ws _ _ hB hN hw)) ?_;apply V;clear V K;refine Zb ?_ ?_<;>intro hb
 ·exact absurd hb (by simp)
 refine ak ?_;apply hK1;refine Za fun K2 hK2=> ?_;refine rg zs [0,3] ?_;refine Zq ?_;refine Zk (fun T' H' n'=>∃i:Nat,i≤bs.length∧T'=tl [(0,.loc kb 0 0 0 []),(3,.int .i64 i)]∧FF 1 mkS bs H i H'∧n=n') (fun T' _ _=>bs.length-iv (T' 3)) ?_ ?_
 ·exact⟨0,Nat.zero_le _,rfl,FF.init hB0,rfl⟩
 rintro T1 H1 n1 ⟨i,hi,rfl,hF,rfl⟩;have hO:=(hF.out kb hkb1).trans hB.ob;have hL:=(hF.out kL hkL1).trans hB.l;refine Za fun K3 hK3=> ?_;refine rg zs [0,3,19] ?_;refine Zb ?_ ?_<;>intro hb
 ·have hlt:i<bs.length:=by have:=of_decide_eq_true hb;omega
  have hnth:nth (bs.map BL.av) i= .osl (bs.getD i default).k (bs.getD i default).v 0 (bs.getD i default).l:=Zr BL.av bs i hlt;obtain⟨X,hX1,hX2,hX3⟩:=hF.bl i (Nat.le_refl _) hlt;have hmw:=markS i (by omega);have hsB:=hlen _ (YJ hlt);have hsk:=hk _ (YJ hlt);have hFs:=fun H2 h2 hr=>hF.step (H2:=H2) hd hlt hX2 h2 hr;generalize bs.getD i default=s at*;have e1:IntKind.i64.wrap ((i:Int)+1)=((i+1:Nat):Int):=w1 (by omega);refine ak ?_;apply hK3;refine bk fun K4 hK4=> ?_;refine rg zs [0,3,4] ?_;refine Zq ?_;refine Zk (fun T' H' n'=>∃j:Nat,j≤s.l∧T'=tl [(0,.loc kb 0 0 0 []),(3,.int .i64 i),(4,.int .i64 j)]∧H' s.k=some (.arr s.v 1 (List.replicate j (mkS i)++X.drop j))∧(∀k,k≠s.k→H' k=H1 k)∧n=n') (fun T' _ _=>s.l-iv (T' 4)) ?_ ?_
  ·exact⟨0,Nat.zero_le _,rfl,by simpa using hX1,fun _ _=>rfl,rfl⟩
  rintro T1 H1 n1 ⟨j,hj,rfl,hk1,hrest,rfl⟩;have hO:=(hrest kb (Ne.symm hsk.2.1)).trans hO;have hL:=(hrest kL (Ne.symm hsk.2.2)).trans hL;refine Za fun K5 hK5=> ?_;refine rg zs [0,3,4,31] ?_;refine Zb ?_ ?_<;>intro hb
  ·have hlj:j<s.l:=by have:=of_decide_eq_true hb;omega
   have e1:IntKind.i64.wrap ((j:Int)+1)=((j+1:Nat):Int):=w1 (by omega);have hfl:=Pw (mk:=mkS i) (X:=X) (j:=j) (by omega);refine ak ?_;apply hK5;refine bk fun K6 hK6=> ?_;refine rg1 zs [0,3,4] ?_;apply hK6;refine rg1 zs [0,3,4] ?_;refine⟨⟨j+1,by omega,rfl,?_,fun k hk=>by(try simp only[Rl]);(repeat first | rw[if_pos rfl] | rw[if_pos trivial] | rw[if_neg (by omega)]);exact hrest k hk⟩,by show s.l-(j+1)<s.l-j;omega⟩
   (try simp only[Rl]);(repeat first | rw[if_pos rfl] | rw[if_pos trivial] | rw[if_neg (by omega)]);rw[←Mc (by omega)];rfl
  have hje:j=s.l:=by have:=of_decide_eq_false hb;omega
  subst hje;refine ax ?_;apply hK4;refine rg1 zs [0,3] ?_;exact⟨⟨i+1,by omega,rfl,hFs _ hk1 hrest⟩,by show bs.length-(i+1)<bs.length-i;omega⟩
 have hge:i=bs.length:=by have:=of_decide_eq_false hb;omega
 subst hge;refine ax ?_;apply hK2;refine rg zs [0,5] ?_;refine Za fun K7 hK7=> ?_;refine rg zs [0,5,6] ?_;refine Zq ?_;refine ZN 5 1 rfl ?_;refine Yl [0,5,6] ?_;refine ns ?_;refine Zk (fun T' H' n'=>∃(i ver:Nat) (ms:List BL),i≤bs.length∧T'=tl [(0,.loc kb 0 0 0 []),(5,.osl n ver 0 i),(6,.int .i64 i)]∧H' n=some (.arr ver 1 (ms.map BL.av))∧GG 1 mkS (· +70) bs H (n+1) n i ms H' n') (fun T' _ _=>bs.length-iv (T' 6)) ?_ ?_
 ·exact⟨0,0,[],Nat.zero_le _,rfl,by first | ((try simp only[Rl]);(repeat first | rw[if_pos rfl] | rw[if_pos trivial] | rw[if_neg (by omega)]);done) | ((try simp only[Rl]);(repeat first | rw[if_pos rfl] | rw[if_pos trivial] | rw[if_neg (by omega)]);rfl),GG.init hF hlo⟩
 rintro T1 H1 n1 ⟨i,ver,ms,hi,rfl,b1,hF⟩;have hO:=(hF.out kb (by omega) (by omega) hkb1).trans hB.ob;have hL:=(hF.out kL (by omega) (by omega) hkL1).trans hB.l;refine Za fun K8 hK8=> ?_;refine rg zs [0,5,6,53] ?_;refine Zb ?_ ?_<;>intro hb
 ·have hlt:i<bs.length:=by have:=of_decide_eq_true hb;omega
  have hnth:nth (bs.map BL.av) i= .osl (bs.getD i default).k (bs.getD i default).v 0 (bs.getD i default).l:=Zr BL.av bs i hlt;have hM1:=hF.mrk i hlt;have hsB:=hlen _ (YJ hlt);have hsk:=hk _ (YJ hlt);have hFs:=fun x H3 n3=>hF.step (x:=x) (H3:=H3) (n3:=n3) hd hlo (by omega) hlt;have hn1:=hF.le;have hml:=hF.len;generalize bs.getD i default=s at*;have hmw:=markS i (by omega);have e1:IntKind.i64.wrap ((i:Int)+1)=((i+1:Nat):Int):=w1 (by omega);have e2:IntKind.i64.wrap (2*(s.l:Int))=2*(s.l:Int):=w64 (by omega) (by omega);have e3:IntKind.i64.wrap (2*(s.l:Int)+70)=2*(s.l:Int)+70:=w64 (by omega) (by omega);obtain⟨m1,hm1⟩:∃x,x=n1:=⟨_,rfl⟩;subst hm1;obtain⟨G1,hg1⟩:∃x,x=H1:=⟨_,rfl⟩;subst hg1;have hG0:GX 1 (mkS i) G1 m1 m1 s s 0:=⟨.inl rfl,by omega,rfl,hM1⟩;refine ak ?_;apply hK8;refine bk fun K9 hK9=> ?_;refine rg zs [0,5,6,7] ?_;refine rg zs [0,5,6,7,8] ?_;refine bk fun K10 hK10=> ?_;refine Zk (fun T' H' n'=>∃(c gk gv:Nat),c≤s.l+70∧T'=tl [(0,.loc kb 0 0 0 []),(5,.osl n ver 0 i),(6,.int .i64 i),(7,.osl gk gv 0 (s.l+c)),(8,.int .i64 (2*(s.l:Int)+70))]∧m1≤n'∧GX 1 (mkS i) H' m1 n' s s 0∧GX 1 (mkS i) H' m1 n' s ⟨gk,gv,s.l+c⟩ c∧∀k,k<m1→k≠s.k→H' k=G1 k) (fun T' _ _=>2*s.l+70-ol (T' 7)) ?_ ?_
  ·exact⟨0,s.k,s.v,Nat.zero_le _,rfl,Nat.le_refl _,hG0,hG0,fun _ _ _=>rfl⟩
  rintro T1 H1 n1 ⟨c,gk,gv,hc,rfl,hn4,hS4,hG4,hf4⟩;refine Za fun K11 hK11=> ?_;refine rg zs [0,5,6,7,8,70] ?_;refine Zb ?_ ?_<;>intro hb
  ·have hlc:c<s.l+70:=by have:=of_decide_eq_true hb;omega
   obtain⟨els,hk1,hel,_⟩:=id hG4.mrk;have hgl4:=hG4.lt;refine ak ?_;apply hK11;refine Zq ?_;refine QB zs [0,5,6,7,8] 6 rfl (by first | trivial | (show _<_;decide)) fun K V=> ?_;refine nz ?_;refine Pb (m:=mkS i) (t:=mkS i) (c:=c) (b:=1) hgl4 hk1 hG4.mrk ?_;intro gk5 gv5 H5 n5 hn5 hgl5 hor5 hmk5 hkp5 hrs5;refine nz ?_;apply V;clear V K;refine ns ?_;refine⟨⟨c+1,gk5,gv5,by omega,rfl,by omega,hS4.keep hk1 hkp5 hrs5 hn5,⟨by rcases hor5 with h | h;exact h▸hG4.key;exact .inr (by show m1≤gk5;omega),hgl5,rfl,hmk5⟩,fun k h1 h2=>(hrs5 k (by omega) (by rcases hG4.key with h | h<;>(simp only at h;omega))).trans (hf4 k h1 h2)⟩,?_⟩;show 2*s.l+70-(s.l+c+1)<2*s.l+70-(s.l+c);omega
  have hce:c=s.l+70:=by have:=of_decide_eq_false hb;omega
  subst hce;have b1:=(hf4 n (by omega) (by omega)).trans b1;have hmll:(ms.map BL.av).length=i:=by rw[qb,hml]
  refine ax ?_;apply hK10;refine rg1 zs [0,5,6] ?_;apply hK9;refine rg1 zs [0,5,6] ?_;have hfr:∀o x c,GX 1 (mkS i) H1 m1 n1 s x c→GX 1 (mkS i) (H1.put n o) m1 n1 s x c:=fun o x c h=>h.frame (Rk _ _ (by rcases h.key with e | e<;>omega)) (Nat.le_refl _);refine⟨⟨i+1,ver+1,ms++[⟨gk,gv,s.l+(s.l+70)⟩],by omega,rfl,by rw[List.take_of_length_le (by rw[hmll];omega),qj];rfl,?_⟩,by omega⟩;exact hFs _ _ _ (by omega) (hfr _ _ _ hG4) (hfr _ _ _ hS4).mrk fun j h1 h2 h3=>(Rk _ _ h3).trans (hf4 j h1 h2)
 have hge:i=bs.length:=by have:=of_decide_eq_false hb;omega
 subst hge;obtain⟨m2,hm2⟩:∃x,x=n1:=⟨_,rfl⟩;subst hm2;obtain⟨G2,hg2⟩:∃x,x=H1:=⟨_,rfl⟩;subst hg2;have hml:=hF.len;refine ax ?_;apply hK7;refine Za fun K12 hK12=> ?_;refine rg zs [0,5,9] ?_;refine Zq ?_;refine Zk (fun T' H' n'=>∃i:Nat,i≤bs.length∧T'=tl [(0,.loc kb 0 0 0 []),(5,.osl n ver 0 bs.length),(9,.int .i64 i)]∧G2=H'∧m2=n') (fun T' _ _=>bs.length-iv (T' 9)) ?_ ?_
 ·exact⟨0,Nat.zero_le _,rfl,rfl,rfl⟩
 rintro T1 H1 n1 ⟨i,hi,rfl,rfl,rfl⟩;refine Za fun K13 hK13=> ?_;refine rg zs [0,5,9,88] ?_;refine Zb ?_ ?_<;>intro hb
 ·have hlt:i<bs.length:=by have:=of_decide_eq_true hb;omega
  have hnth:nth (bs.map BL.av) i= .osl (bs.getD i default).k (bs.getD i default).v 0 (bs.getD i default).l:=Zr BL.av bs i hlt;have e2:nth (ms.map BL.av) i= .osl (ms.getD i default).k (ms.getD i default).v 0 (ms.getD i default).l:=Zr BL.av ms i (by omega);have hsB:=hlen _ (YJ hlt);obtain⟨X,hx1,hx2,hx3⟩:=(hF.mrk i hlt).all;have hg:=hF.g i hlt;have hgl:=hg.l;obtain⟨Y,hy1,hy2,hy3⟩:=hg.mrk.all;clear hg;generalize bs.getD i default=s at*;generalize ms.getD i default=x at*;have hmw:=markS i (by omega);have e1:IntKind.i64.wrap ((i:Int)+1)=((i+1:Nat):Int):=w1 (by omega);have e3:i<ms.length:=by omega
  refine ak ?_;apply hK13;refine bk fun K14 hK14=> ?_;refine rk zs [0,5,9,115] fun K V=> ?_;refine ck func64 ((MN s.k s.v s.l _ (by omega) X _ _ hx1 (by omega) fun j hj=>hx3 j (by omega))) ?_;refine cg func64 (fun _=>(MN x.k x.v x.l _ (by omega) Y _ _ hy1 (by omega) fun j hj=>hy3 j (by omega))) ?_;apply V;clear V K;refine Zb ?_ ?_<;>intro hb
  ·exact absurd hb (by simp)
  refine ak ?_;apply hK14;refine rg1 zs [0,5,9] ?_;exact⟨⟨i+1,by omega,rfl⟩,by show bs.length-(i+1)<bs.length-i;omega⟩
 refine ax ?_;apply hK12;refine rg zs [2] ?_;refine ar ?_;exact⟨by have:=hF.le;omega,fun k hk hkb=>hF.out k (by omega) (by omega) hkb⟩
theorem fz_any{k ver e:Nat}(l:List AV):FzV k ver e l (.osl k ver 0 l.length) (.sl e l):=by
 have h:=FzV.osl (k:=k) (ver:=ver) (e:=e) (els:=l) (off:=0) (len:=l.length) osi
 rwa [List.drop_zero,List.take_of_length_le osi]at h
theorem NU70.eqs{P Q:Prop}(g:Imp P Q:=by(try simp only[go_sem,seval,ht,b1,qg,List.length_replicate,qd]);exact Imp.rf):Imp P Q:=g
theorem NU70.inz{P Q:Prop}(g:Imp P Q:=by refine Imp.up eqs ?_;(repeat (first | (refine Imp.nd ?_ ?_;· first | exact⟨rfl,by(simp[AV.sz,AV.memOK];first | done | fail)⟩ | exact⟨Nat.le_refl _,.inr trivial,by omega,by omega⟩) | refine Imp.pl ?_));exact Imp.rf):Imp P Q:=g
theorem JI{α:Type}[Inhabited α]{β:Type}(f:α→List β)(l:List α){i:Nat}(h:i<l.length):(l.take (i+1)).flatMap f=(l.take i).flatMap f++f (l.getD i default):=by
 rw[List.take_succ_eq_append_getElem h,List.flatMap_append];simp[List.getD,List.getElem?_eq_getElem h]
theorem blsC_len(l:List CO):(l.flatMap blsC).length=2*l.length:=by
 induction l with
 | nil=>rfl
 | cons c l ih=>rw[List.flatMap_cons,qe,ih];simp[blsC];omega
theorem blsR_len(l:List RO)(h:∀r∈l,r.cs.length≤1048576):(l.flatMap blsR).length≤2097153*l.length:=by
 induction l with
 | nil=>simp
 | cons r l ih=>
   rw[List.flatMap_cons,qe];have h1:=ih fun x hx=>h x (by simp[hx]);have h2:=h r osi;have:(blsR r).length=2*r.cs.length+1:=by rw[show blsR r=r.r::r.cs.flatMap blsC from rfl,qi,blsC_len]
   simp only[qi];omega
theorem memR{l:List RO}{i:Nat}(h:i<l.length):l.getD i default∈l:=by simp[List.getD,List.getElem?_eq_getElem h]
theorem NU71.eqs{P Q:Prop}(g:Imp P Q:=by(try simp only[go_sem,seval,hpv,hsz,hmo,hag,hst,hR,hR1,hC1,b1,b2,hnth,hntc,e1,g1,g2,qg,qb,qd]);exact Imp.rf):Imp P Q:=g
theorem NU71.inz{P Q:Prop}(g:Imp P Q:=by refine Imp.up eqs ?_;(repeat (first | (refine Imp.nd ?_ ?_;· first | exact⟨rfl,by(simp[BL.av_sz,BL.av_mo];first | done | fail)⟩ | (simp;omega)) | refine Imp.pl ?_));exact Imp.rf):Imp P Q:=g
def KeepK(kb kL kW:Nat)(bs:List BL)(ws:List (List UInt8))(H:Heap)(n:Nat)(res:ARes)(H':Heap)(n':Nat):Prop:=
 res= .val (.tup [])∧n≤n'∧(∃vL vW,BkS H' kb kL vL kW vW bs ws)∧∀k,k<n→k≠kb→k≠kL→k≠kW→H' k=H k
theorem NXd0.eqs{P Q:Prop}(g:Imp P Q:=by(try simp only[go_sem,seval,hO,hL,hW,hk1,hsl,hsz,hmo,hst,hag,f1,f2,f3,f4,f5,f6,f7,f8,f9,f0,e1,qg,qb,qd]);exact Imp.rf):Imp P Q:=g
theorem NXd0.inz{P Q:Prop}(g:Imp P Q:=by refine Imp.up eqs ?_;(repeat (first | (refine Imp.nd ?_ ?_;· first | exact⟨by(simp;first | done | fail),.inr trivial,by omega,by omega⟩ | exact⟨rfl,by(simp[AV.sz,AV.memOK];first | done | fail)⟩) | refine Imp.pl ?_));exact Imp.rf):Imp P Q:=g
open NXd0 in
theorem X8(kb kL vL kW vW : Nat)(bs : List BL)(ws : List (List UInt8))(s : BL)(w : List UInt8)(H : Heap)(n : Nat)(hB : BkS H kb kL vL kW vW bs ws)(hN : bs.length ≤ 1000000000)(hw : BlW H s w)(hwl : w.length ≤ 1099511627776)
   (hd:kb≠kL∧kb≠kW∧kL≠kW) (hn:kb<n∧kL<n∧kW<n∧s.k<n):
   Zn prog 27 [.loc kb 0 0 0 [],s.av] H n (KeepK kb kL kW (bs++[s]) (ws++[w]) H n):=by
 have hO:=hB.ob;have hL:=hB.l;have hW:=hB.w;have hl:=hB.len;obtain⟨X,hk1,hsl⟩:=hw;have hsv:s.av= .osl s.k s.v 0 s.l:=rfl;have hsz:∀s:BL,s.av.sz=1:=fun _=>rfl;have hmo:∀s:BL,s.av.memOK=true:=fun _=>rfl;have hst:∀s:BL,strip true s.av=s.av:=fun _=>rfl;have hag:∀s:BL,s.av.isAgg=false:=fun _=>rfl;have f1:(kb=n)=False:=by simp;omega
 have f2:(kL=n)=False:=by simp;omega
 have f3:(kW=n)=False:=by simp;omega
 have f4:(s.k=n)=False:=by simp;omega
 have f5:(kb=kL)=False:=by simp;exact hd.1
 have f6:(kb=kW)=False:=by simp;exact hd.2.1
 have f7:(kL=kW)=False:=by simp;exact hd.2.2
 have f8:(kL=kb)=False:=by simp;exact Ne.symm hd.1
 have f9:(kW=kb)=False:=by simp;exact Ne.symm hd.2.1
 have f0:(kW=kL)=False:=by simp;exact Ne.symm hd.2.2
 have e1:List.take w.length (w.map Zd++X)=w.map Zd:=List.take_left' (by simp);refine fw func27 ntmps27 results27 ?_;refine rg zs [0,1,4] ?_;refine ZN 4 1 rfl ?_;simp only[go_sem,seval];refine Zg zs [0,1,4] fun K V=> ?_
 try simp only[go_sem,seval,hO,hL,hW,hk1,hsl,hsz,hmo,hst,hag,f1,f2,f3,f4,f5,f6,f7,f8,f9,f0,e1,qg,qb,qd,hsv]
 repeat (first | (refine And.intro ?_ ?_;· first | exact⟨by simp,.inr trivial,by omega,by omega⟩) | refine peel ?_)
 apply V;clear V K;refine Ua 4 n (by first | ((try simp only[Rl]);(repeat first | rw[if_pos rfl] | rw[if_pos trivial] | rw[if_neg (by omega)]);done) | ((try simp only[Rl]);(repeat first | rw[if_pos rfl] | rw[if_pos trivial] | rw[if_neg (by omega)]);rfl)) (by have h9:=fz_any (k:=n) (ver:=1) (e:=1) (w.map Zd);rw[qb]at h9;exact h9) ?_;simp only[go_sem];refine rg zs [0,4] ?_;refine rg1 zs [] ?_;have ea:List.take bs.length (List.map BL.av bs)++[AV.osl s.k s.v 0 w.length]=(bs++[s]).map BL.av:=by rw[List.take_of_length_le (by simp),qj,←hsl];rfl
 have eb:List.take ws.length (List.map bys ws)++[AV.sl 1 (List.map Zd w)]=(ws++[w]).map bys:=by rw[List.take_of_length_le (by simp),qj];rfl
 rw[ea,eb];refine⟨rfl,by omega,⟨vL+1,vW+1,?_,?_,?_,by simp[hl]⟩,fun k h1 h2 h3 h4=>by rw[Rk _ _ h2,Rk _ _ h4,Rk _ _ h2,Rk _ _ h3,Rk _ _ (by omega)]⟩
 ·rw[Rm,qe,qe];rfl
 ·rw[Rk _ _ (Ne.symm hd.1),Rk _ _ hd.2.2,Rk _ _ (Ne.symm hd.1),Rm]
 ·rw[Rk _ _ (Ne.symm hd.2.1),Rm]
structure PgS(H:Heap)(kp kR vR kC vC kW vW:Nat)(rs cs:List BL)(wss:List (List RowE)):Prop where
 ob:H kp=some (.arr 0 3 [.agg [.osl kR vR 0 rs.length,.osl kC vC 0 cs.length,.osl kW vW 0 wss.length]])
 r:H kR=some (.arr vR 1 (rs.map BL.av))
 c:H kC=some (.arr vC 1 (cs.map BL.av))
 w:H kW=some (.arr vW 1 (wss.map fun l=> .sl 2 (l.map Zf)))
 len:rs.length=wss.length
theorem FF.here{e:Nat}{mk:Nat→AV}{bs:List BL}{H:Heap}(h:∀j,j<bs.length→Mk H (bs.getD j default).k (bs.getD j default).v e (mk j) (mk j) (bs.getD j default).l 0):FF e mk bs H bs.length H:=⟨fun j _ hj=>h j hj,fun j h1 h2=>om,fun _ _=>rfl⟩
theorem bl_key{bs:List BL}{j:Nat}(h:j<bs.length):(bs.getD j default).k∈bs.map (·.k):=List.mem_map.2 ⟨_,YJ h,rfl⟩
theorem NXe0.eqs{P Q:Prop}(g:Imp P Q:=by(try simp only[go_sem,seval,hO,hL,hC,hW,hsz,hmo,hst,hag,hnth,hmw,hk1,b1,b2,e1,e2,e3,e4,qg,qb,qd]);exact Imp.rf):Imp P Q:=g
theorem NXe0.inz{P Q:Prop}(g:Imp P Q:=by refine Imp.up eqs ?_;(repeat (first | (refine Imp.nd ?_ ?_;· first | exact⟨by rw[hfl];omega,by rw[Pv];exact hX3 j hlj⟩ | exact⟨rfl,fun x hx=>by rw[List.mem_singleton.1 hx];exact⟨rfl,rfl⟩⟩ | exact⟨1,rfl,rfl⟩ | exact⟨hel,.inr trivial,by omega,by omega⟩ | exact⟨by rw[hml];exact Nat.le_refl _,.inr trivial,by omega,by omega⟩ | exact⟨by rw[hll];exact Nat.le_refl _,.inr trivial,by omega,by omega⟩) | refine Imp.pl ?_));exact Imp.rf):Imp P Q:=g
set_option maxHeartbeats 6400000 in
open NXe0 in
theorem MU(kp kR vR kC vC kW vW : Nat)(rs cs : List BL)(wss : List (List RowE))(H : Heap)(n : Nat)(hP : PgS H kp kR vR kC vC kW vW rs cs wss)(hNr : rs.length ≤ 1000000000)(hNc : cs.length ≤ 1000000000)
   (hsr:∀i,i<rs.length→Frz H 0 (rs.getD i default).av (.sl 2 ((wss.getD i default).map Zf))∧(wss.getD i default).length≤1048576∧∀x∈wss.getD i default,x.cells.length≤1048576)
   (hc:∀s∈cs,Bl0 H 4 s∧s.l≤1048576) (hr:∀s∈rs,Bl0 H 2 s∧s.l≤1048576) (hdr:(rs.map (·.k)).Nodup) (hdc:(cs.map (·.k)).Nodup) (hdd:∀k∈rs.map (·.k),k∉cs.map (·.k))
   (hkn:kp<n∧kR<n∧kC<n) (hkr:∀s∈rs,s.k<n∧s.k≠kp∧s.k≠kR∧s.k≠kC) (hkc:∀s∈cs,s.k<n∧s.k≠kp∧s.k≠kR∧s.k≠kC):
   Zn prog 29 [.loc kp 0 0 0 []] H n fun res H' n'=>res= .val (.bool true)∧n≤n'∧∀k,k<n→k∉rs.map (·.k)→k∉cs.map (·.k)→H' k=H k:=by
 have nr:∀k,k=kp∨k=kR∨k=kC→k∉rs.map (·.k):=fun k hk h=>by obtain⟨s,hs,e⟩:=List.mem_map.1 h;have:=hkr s hs;rcases hk with rfl | rfl | rfl<;>omega
 have nc:∀k,k=kp∨k=kR∨k=kC→k∉cs.map (·.k):=fun k hk h=>by obtain⟨s,hs,e⟩:=List.mem_map.1 h;have:=hkc s hs;rcases hk with rfl | rfl | rfl<;>omega
 have hloc:∀s∈cs,s.k<n+1∧s.k≠n:=fun s hs=>by have:=(hkc s hs).1;exact⟨by omega,by omega⟩
 have hsz:∀s:BL,s.av.sz=1:=fun _=>rfl;have hmo:∀s:BL,s.av.memOK=true:=fun _=>rfl;have hst:∀s:BL,strip true s.av=s.av:=fun _=>rfl;have hag:∀s:BL,s.av.isAgg=false:=fun _=>rfl;have hO:=hP.ob;have hL:=hP.r;have hC:=hP.c;have hW:=hP.w;have hlw:=hP.len;have hnth:=hNr;have hmw:=hNr;have hk1:=hNr;have b1:=hNr;have b2:=hNr;have e1:=hNr;have e2:=hNr;have e3:=hNr;have e4:=hNr;refine fw func29 ntmps29 results29 ?_;refine rg zs [0] ?_;refine Za fun K1 hK1=> ?_;refine rg zs [0,3] ?_;refine Zq ?_;refine Zk (fun T' H' n'=>∃i:Nat,i≤rs.length∧T'=tl [(0,.loc kp 0 0 0 []),(3,.int .i64 i)]∧H=H'∧n=n') (fun T' _ _=>rs.length-iv (T' 3)) ?_ ?_
 ·exact⟨0,Nat.zero_le _,rfl,rfl,rfl⟩
 rintro T1 H1 n1 ⟨i,hi,rfl,rfl,rfl⟩;refine Za fun K2 hK2=> ?_;refine rg zs [0,3,24] ?_;refine Zb ?_ ?_<;>intro hb
 ·have hlt:i<rs.length:=by have:=of_decide_eq_true hb;omega
  have e1:IntKind.i64.wrap ((i:Int)+1)=((i+1:Nat):Int):=w1 (by omega);have e2:nth (rs.map BL.av) i=(rs.getD i default).av:=Zr BL.av rs i hlt;have e3:nth (wss.map fun l=>AV.sl 2 (l.map Zf)) i= .sl 2 ((wss.getD i default).map Zf):=Zr _ wss i (by omega);obtain⟨hwi,hwl,hwc⟩:=hsr i hlt;generalize rs.getD i default=s at*;generalize wss.getD i default=w at*;have hsm:∀m,Ret prog 43 [s.av,.sl 2 (w.map Zf)] H m (.bool true) H m:=fun m=>by
    have h9:=U1 w w hwl hwl hwc hwc (fun _=>none) 0;rw[decide_eq_true rfl]at h9;exact Ret.lend trivial (.cons hwi (.cons (.kl (Xq Zf (fun x=>Pj x _) _)) .nil)) h9
  refine ak ?_;apply hK2;refine bk fun K3 hK3=> ?_;refine dx zs [0,3,42] [.m,.q,.q,.q,.m,.q,.q,.m,.q,.q,.q,.m,.q,.q,.c,.q] [0,1,2,3,4,5,6,7,8,9,10,11,12,13,14,15] [0,1,2,3,4,5,6,7,8,9,10,11,12,13,14,15] fun K V=> ?_;refine cq func43 (fun _ n=>(hsm _)) ?_;apply V;clear V K;refine Zb ?_ ?_<;>intro hb
  ·exact absurd hb (by simp)
  refine ak ?_;apply hK3;refine rg1 zs [0,3] ?_;exact⟨⟨i+1,by omega,rfl⟩,by show rs.length-(i+1)<rs.length-i;omega⟩
 refine ax ?_;apply hK1;refine Za fun K4 hK4=> ?_;refine rg zs [0,4] ?_;refine Zq ?_;refine Zk (fun T' H' n'=>∃i:Nat,i≤cs.length∧T'=tl [(0,.loc kp 0 0 0 []),(4,.int .i64 i)]∧FF 4 mkC cs H i H'∧n=n') (fun T' _ _=>cs.length-iv (T' 4)) ?_ ?_
 ·exact⟨0,Nat.zero_le _,rfl,FF.init fun s hs=>(hc s hs).1,rfl⟩
 rintro T1 H1 n1 ⟨i,hi,rfl,hF,rfl⟩;have hO:=(hF.out kp (nc _ (.inl rfl))).trans hP.ob;have hC:=(hF.out kC (nc _ (.inr (.inr rfl)))).trans hP.c;refine Za fun K5 hK5=> ?_;refine rg zs [0,4,49] ?_;refine Zb ?_ ?_<;>intro hb
 ·have hlt:i<cs.length:=by have:=of_decide_eq_true hb;omega
  have hnth:nth (cs.map BL.av) i= .osl (cs.getD i default).k (cs.getD i default).v 0 (cs.getD i default).l:=Zr BL.av cs i hlt;obtain⟨X,hX1,hX2,hX3⟩:=hF.bl i (Nat.le_refl _) hlt;have hmw:IntKind.i64.wrap (-100-(i:Int))= -100-(i:Int):=w64 (by omega) (by omega);have hsB:=(hc _ (YJ hlt)).2;have hsk:=hkc _ (YJ hlt);have hFs:=fun H2 h2 hr=>hF.step (H2:=H2) hdc hlt hX2 h2 hr;generalize cs.getD i default=s at*;have e1:IntKind.i64.wrap ((i:Int)+1)=((i+1:Nat):Int):=w1 (by omega);refine ak ?_;apply hK5;refine bk fun K6 hK6=> ?_;refine rg zs [0,4,5] ?_;refine Zq ?_;refine Zk (fun T' H' n'=>∃j:Nat,j≤s.l∧T'=tl [(0,.loc kp 0 0 0 []),(4,.int .i64 i),(5,.int .i64 j)]∧H' s.k=some (.arr s.v 4 (List.replicate j (mkC i)++X.drop j))∧(∀k,k≠s.k→H' k=H1 k)∧n=n') (fun T' _ _=>s.l-iv (T' 5)) ?_ ?_
  ·exact⟨0,Nat.zero_le _,rfl,by simpa using hX1,fun _ _=>rfl,rfl⟩
  rintro T1 H1 n1 ⟨j,hj,rfl,hk1,hrest,rfl⟩;have hO:=(hrest kp (Ne.symm hsk.2.1)).trans hO;have hC:=(hrest kC (Ne.symm hsk.2.2.2)).trans hC;refine Za fun K7 hK7=> ?_;refine rg zs [0,4,5,61] ?_;refine Zb ?_ ?_<;>intro hb
  ·have hlj:j<s.l:=by have:=of_decide_eq_true hb;omega
   have e1:IntKind.i64.wrap ((j:Int)+1)=((j+1:Nat):Int):=w1 (by omega);have hfl:=Pw (mk:=mkC i) (X:=X) (j:=j) (by omega);refine ak ?_;apply hK7;refine bk fun K8 hK8=> ?_;refine rg1 zs [0,4,5] ?_;apply hK8;refine rg1 zs [0,4,5] ?_;refine⟨⟨j+1,by omega,rfl,?_,fun k hk=>by(try simp only[Rl]);(repeat first | rw[if_pos rfl] | rw[if_pos trivial] | rw[if_neg (by omega)]);exact hrest k hk⟩,by show s.l-(j+1)<s.l-j;omega⟩
   (try simp only[Rl]);(repeat first | rw[if_pos rfl] | rw[if_pos trivial] | rw[if_neg (by omega)]);rw[←Mc (by omega)];rfl
  have hje:j=s.l:=by have:=of_decide_eq_false hb;omega
  subst hje;refine ax ?_;apply hK6;refine rg1 zs [0,4] ?_;exact⟨⟨i+1,by omega,rfl,hFs _ hk1 hrest⟩,by show cs.length-(i+1)<cs.length-i;omega⟩
 have hge:i=cs.length:=by have:=of_decide_eq_false hb;omega
 subst hge;obtain⟨Ha,hHa⟩:∃x,x=H1:=⟨_,rfl⟩;subst hHa;have hL:=(hF.out kR (nc _ (.inr (.inl rfl)))).trans hP.r;have hOa:=hO;have hLa:=hL;have hrb:∀s∈rs,Bl0 Ha 2 s:=fun s hs=>by
   obtain⟨Y,h7,h8⟩:=(hr s hs).1;exact⟨Y,(hF.out _ (hdd _ (List.mem_map.2 ⟨s,hs,rfl⟩))).trans h7,h8⟩
 refine ax ?_;apply hK4;refine Za fun K9 hK9=> ?_;refine rg zs [0,6] ?_;refine Zq ?_;refine Zk (fun T' H' n'=>∃i:Nat,i≤rs.length∧T'=tl [(0,.loc kp 0 0 0 []),(6,.int .i64 i)]∧FF 2 mkR rs Ha i H'∧n=n') (fun T' _ _=>rs.length-iv (T' 6)) ?_ ?_
 ·exact⟨0,Nat.zero_le _,rfl,FF.init hrb,rfl⟩
 rintro T1 H1 n1 ⟨i,hi,rfl,hE,rfl⟩;have hO:=(hE.out kp (nr _ (.inl rfl))).trans hOa;have hL:=(hE.out kR (nr _ (.inr (.inl rfl)))).trans hLa;refine Za fun K10 hK10=> ?_;refine rg zs [0,6,82] ?_;refine Zb ?_ ?_<;>intro hb
 ·have hlt:i<rs.length:=by have:=of_decide_eq_true hb;omega
  have hnth:nth (rs.map BL.av) i= .osl (rs.getD i default).k (rs.getD i default).v 0 (rs.getD i default).l:=Zr BL.av rs i hlt;obtain⟨X,hX1,hX2,hX3⟩:=hE.bl i (Nat.le_refl _) hlt;have hmw:IntKind.i64.wrap (-7-(i:Int))= -7-(i:Int):=w64 (by omega) (by omega);have hsB:=(hr _ (YJ hlt)).2;have hsk:=hkr _ (YJ hlt);have hFs:=fun H2 h2 hr=>hE.step (H2:=H2) hdr hlt hX2 h2 hr;generalize rs.getD i default=s at*;have e1:IntKind.i64.wrap ((i:Int)+1)=((i+1:Nat):Int):=w1 (by omega);refine ak ?_;apply hK10;refine bk fun K11 hK11=> ?_;refine rg zs [0,6,7] ?_;refine Zq ?_;refine Zk (fun T' H' n'=>∃j:Nat,j≤s.l∧T'=tl [(0,.loc kp 0 0 0 []),(6,.int .i64 i),(7,.int .i64 j)]∧H' s.k=some (.arr s.v 2 (List.replicate j (mkR i)++X.drop j))∧(∀k,k≠s.k→H' k=H1 k)∧n=n') (fun T' _ _=>s.l-iv (T' 7)) ?_ ?_
  ·exact⟨0,Nat.zero_le _,rfl,by simpa using hX1,fun _ _=>rfl,rfl⟩
  rintro T1 H1 n1 ⟨j,hj,rfl,hk1,hrest,rfl⟩;have hO:=(hrest kp (Ne.symm hsk.2.1)).trans hO;have hL:=(hrest kR (Ne.symm hsk.2.2.1)).trans hL;refine Za fun K12 hK12=> ?_;refine rg zs [0,6,7,94] ?_;refine Zb ?_ ?_<;>intro hb
  ·have hlj:j<s.l:=by have:=of_decide_eq_true hb;omega
   have e1:IntKind.i64.wrap ((j:Int)+1)=((j+1:Nat):Int):=w1 (by omega);have hfl:=Pw (mk:=mkR i) (X:=X) (j:=j) (by omega);refine ak ?_;apply hK12;refine bk fun K13 hK13=> ?_;refine rg1 zs [0,6,7] ?_;apply hK13;refine rg1 zs [0,6,7] ?_;refine⟨⟨j+1,by omega,rfl,?_,fun k hk=>by(try simp only[Rl]);(repeat first | rw[if_pos rfl] | rw[if_pos trivial] | rw[if_neg (by omega)]);exact hrest k hk⟩,by show s.l-(j+1)<s.l-j;omega⟩
   (try simp only[Rl]);(repeat first | rw[if_pos rfl] | rw[if_pos trivial] | rw[if_neg (by omega)]);rw[←Mc (by omega)];rfl
  have hje:j=s.l:=by have:=of_decide_eq_false hb;omega
  subst hje;refine ax ?_;apply hK11;refine rg1 zs [0,6] ?_;exact⟨⟨i+1,by omega,rfl,hFs _ hk1 hrest⟩,by show rs.length-(i+1)<rs.length-i;omega⟩
 have hge:i=rs.length:=by have:=of_decide_eq_false hb;omega
 subst hge;obtain⟨Hb,hHb⟩:∃x,x=H1:=⟨_,rfl⟩;subst hHb;have hb9:∀k,k∉rs.map (·.k)→k∉cs.map (·.k)→Hb k=H k:=fun k h1 h2=>(hE.out k h1).trans (hF.out k h2);have hC:=(hE.out kC (nr _ (.inr (.inr rfl)))).trans hC;have hOb:=hO;have hLb:=hL;have hCb:=hC;have hmc:∀j,j<cs.length→Mk Hb (cs.getD j default).k (cs.getD j default).v 4 (mkC j) (mkC j) (cs.getD j default).l 0:=fun j hj=>(hF.mrk j hj hj).frame (hE.out _ fun h=>hdd _ h (bl_key hj));have hmr:∀j,j<rs.length→Mk Hb (rs.getD j default).k (rs.getD j default).v 2 (mkR j) (mkR j) (rs.getD j default).l 0:=fun j hj=>hE.mrk j hj hj;refine ax ?_;apply hK9;refine rg zs [0,8] ?_;refine Za fun K14 hK14=> ?_;refine rg zs [0,8,9] ?_;refine Zq ?_;refine ZN 8 1 rfl ?_;refine Yl [0,8,9] ?_;refine ns ?_;refine Zk (fun T' H' n'=>∃(i ver:Nat) (ms:List BL),i≤cs.length∧T'=tl [(0,.loc kp 0 0 0 []),(8,.osl n ver 0 i),(9,.int .i64 i)]∧H' n=some (.arr ver 1 (ms.map BL.av))∧GG 4 mkC (· +20) cs Hb (n+1) n i ms H' n') (fun T' _ _=>cs.length-iv (T' 9)) ?_ ?_
 ·exact⟨0,0,[],Nat.zero_le _,rfl,by first | ((try simp only[Rl]);(repeat first | rw[if_pos rfl] | rw[if_pos trivial] | rw[if_neg (by omega)]);done) | ((try simp only[Rl]);(repeat first | rw[if_pos rfl] | rw[if_pos trivial] | rw[if_neg (by omega)]);rfl),GG.init (FF.here hmc) hloc⟩
 rintro T1 H1 n1 ⟨i,ver,ms,hi,rfl,b1,hG⟩;have hO:=(hG.out kp (by omega) (by omega) (nc _ (.inl rfl))).trans hOb;have hC:=(hG.out kC (by omega) (by omega) (nc _ (.inr (.inr rfl)))).trans hCb;refine Za fun K15 hK15=> ?_;refine rg zs [0,8,9,117] ?_;refine Zb ?_ ?_<;>intro hb
 ·have hlt:i<cs.length:=by have:=of_decide_eq_true hb;omega
  have hnth:nth (cs.map BL.av) i= .osl (cs.getD i default).k (cs.getD i default).v 0 (cs.getD i default).l:=Zr BL.av cs i hlt;have hM1:=hG.mrk i hlt;have hsB:=(hc _ (YJ hlt)).2;have hsk:=hkc _ (YJ hlt);have hFs:=fun x H3 n3=>hG.step (x:=x) (H3:=H3) (n3:=n3) hdc hloc (by omega) hlt;have hn1:=hG.le;have hml:=hG.len;generalize cs.getD i default=s at*;have hmw:IntKind.i64.wrap (-100-(i:Int))= -100-(i:Int):=w64 (by omega) (by omega);have e1:IntKind.i64.wrap ((i:Int)+1)=((i+1:Nat):Int):=w1 (by omega);have e2:IntKind.i64.wrap (2*(s.l:Int))=2*(s.l:Int):=w64 (by omega) (by omega);have e3:IntKind.i64.wrap (2*(s.l:Int)+20)=2*(s.l:Int)+20:=w64 (by omega) (by omega);obtain⟨m1,hm1⟩:∃x,x=n1:=⟨_,rfl⟩;subst hm1;obtain⟨G1,hg1⟩:∃x,x=H1:=⟨_,rfl⟩;subst hg1;have hG0:GX 4 (mkC i) G1 m1 m1 s s 0:=⟨.inl rfl,by omega,rfl,hM1⟩;refine ak ?_;apply hK15;refine bk fun K16 hK16=> ?_;refine rg zs [0,8,9,10] ?_;refine rg zs [0,8,9,10,11] ?_;refine bk fun K17 hK17=> ?_;refine Zk (fun T' H' n'=>∃(c gk gv:Nat),c≤s.l+20∧T'=tl [(0,.loc kp 0 0 0 []),(8,.osl n ver 0 i),(9,.int .i64 i),(10,.osl gk gv 0 (s.l+c)),(11,.int .i64 (2*(s.l:Int)+20))]∧m1≤n'∧GX 4 (mkC i) H' m1 n' s s 0∧GX 4 (mkC i) H' m1 n' s ⟨gk,gv,s.l+c⟩ c∧∀k,k<m1→k≠s.k→H' k=G1 k) (fun T' _ _=>2*s.l+20-ol (T' 10)) ?_ ?_
  ·exact⟨0,s.k,s.v,Nat.zero_le _,rfl,Nat.le_refl _,hG0,hG0,fun _ _ _=>rfl⟩
  rintro T1 H1 n1 ⟨c,gk,gv,hcc,rfl,hn4,hS4,hG4,hf4⟩;refine Za fun K18 hK18=> ?_;refine rg zs [0,8,9,10,11,134] ?_;refine Zb ?_ ?_<;>intro hb
  ·have hlc:c<s.l+20:=by have:=of_decide_eq_true hb;omega
   obtain⟨els,hk1,hel,_⟩:=id hG4.mrk;have hgl4:=hG4.lt;refine ak ?_;apply hK18;refine Zq ?_;refine QB zs [0,8,9,10,11] 5 rfl (by first | trivial | (show _<_;decide)) fun K V=> ?_;refine nz ?_;refine Pb (m:=mkC i) (t:=mkC i) (c:=c) (b:=1) hgl4 hk1 hG4.mrk ?_;intro gk5 gv5 H5 n5 hn5 hgl5 hor5 hmk5 hkp5 hrs5;refine nz ?_;apply V;clear V K;refine ns ?_;refine⟨⟨c+1,gk5,gv5,by omega,rfl,by omega,hS4.keep hk1 hkp5 hrs5 hn5,⟨by rcases hor5 with h | h;exact h▸hG4.key;exact .inr (by show m1≤gk5;omega),hgl5,rfl,hmk5⟩,fun k h1 h2=>(hrs5 k (by omega) (by rcases hG4.key with h | h<;>(simp only at h;omega))).trans (hf4 k h1 h2)⟩,?_⟩;show 2*s.l+20-(s.l+c+1)<2*s.l+20-(s.l+c);omega
  have hce:c=s.l+20:=by have:=of_decide_eq_false hb;omega
  subst hce;have b1:=(hf4 n (by omega) (by omega)).trans b1;have hmll:(ms.map BL.av).length=i:=by rw[qb,hml]
  refine ax ?_;apply hK17;refine rg1 zs [0,8,9] ?_;apply hK16;refine rg1 zs [0,8,9] ?_;have hfr:∀o x c,GX 4 (mkC i) H1 m1 n1 s x c→GX 4 (mkC i) (H1.put n o) m1 n1 s x c:=fun o x c h=>h.frame (Rk _ _ (by rcases h.key with e | e<;>omega)) (Nat.le_refl _);refine⟨⟨i+1,ver+1,ms++[⟨gk,gv,s.l+(s.l+20)⟩],by omega,rfl,by rw[List.take_of_length_le (by rw[hmll];omega),qj];rfl,?_⟩,by omega⟩;exact hFs _ _ _ (by omega) (hfr _ _ _ hG4) (hfr _ _ _ hS4).mrk fun j h1 h2 h3=>(Rk _ _ h3).trans (hf4 j h1 h2)
 have hge:i=cs.length:=by have:=of_decide_eq_false hb;omega
 subst hge;obtain⟨p1,hp1⟩:∃x,x=n1:=⟨_,rfl⟩;subst hp1;obtain⟨Hc,hHc⟩:∃x,x=H1:=⟨_,rfl⟩;subst hHc;have hGl:=hG.le;have hml:=hG.len;have hL:=(hG.out kR (by omega) (by omega) (nc _ (.inr (.inl rfl)))).trans hLb;have hOc:=hO;have hLc:=hL;have hCc:=hC;have hbc:=b1;have hlor:∀s∈rs,s.k<p1+1∧s.k≠p1:=fun s hs=>by have:=(hkr s hs).1;exact⟨by omega,by omega⟩
 have hmr2:∀j,j<rs.length→Mk Hc (rs.getD j default).k (rs.getD j default).v 2 (mkR j) (mkR j) (rs.getD j default).l 0:=fun j hj=>(hmr j hj).frame (hG.out _ (by have:=(hkr _ (YJ hj)).1;omega) (by have:=(hkr _ (YJ hj)).1;omega) (hdd _ (bl_key hj)));refine ax ?_;apply hK14;refine rg zs [0,8,12] ?_;refine Za fun K19 hK19=> ?_;refine rg zs [0,8,12,13] ?_;refine Zq ?_;refine ZN 12 1 rfl ?_;refine Yl [0,8,12,13] ?_;refine ns ?_;refine Zk (fun T' H' n'=>∃(i vel:Nat) (ls:List BL),i≤rs.length∧T'=tl [(0,.loc kp 0 0 0 []),(8,.osl n ver 0 cs.length),(12,.osl p1 vel 0 i),(13,.int .i64 i)]∧H' p1=some (.arr vel 1 (ls.map BL.av))∧GG 2 mkR (· +20) rs Hc (p1+1) p1 i ls H' n') (fun T' _ _=>rs.length-iv (T' 13)) ?_ ?_
 ·exact⟨0,0,[],Nat.zero_le _,rfl,by first | ((try simp only[Rl]);(repeat first | rw[if_pos rfl] | rw[if_pos trivial] | rw[if_neg (by omega)]);done) | ((try simp only[Rl]);(repeat first | rw[if_pos rfl] | rw[if_pos trivial] | rw[if_neg (by omega)]);rfl),GG.init (FF.here hmr2) hlor⟩
 rintro T1 H1 n1 ⟨i,vel,ls,hi,rfl,b2,hE⟩;have hO:=(hE.out kp (by omega) (by omega) (nr _ (.inl rfl))).trans hOc;have hL:=(hE.out kR (by omega) (by omega) (nr _ (.inr (.inl rfl)))).trans hLc;refine Za fun K20 hK20=> ?_;refine rg zs [0,8,12,13,151] ?_;refine Zb ?_ ?_<;>intro hb
 ·have hlt:i<rs.length:=by have:=of_decide_eq_true hb;omega
  have hnth:nth (rs.map BL.av) i= .osl (rs.getD i default).k (rs.getD i default).v 0 (rs.getD i default).l:=Zr BL.av rs i hlt;have hM1:=hE.mrk i hlt;have hsB:=(hr _ (YJ hlt)).2;have hsk:=hkr _ (YJ hlt);have hFs:=fun x H3 n3=>hE.step (x:=x) (H3:=H3) (n3:=n3) hdr hlor (by omega) hlt;have hn1:=hE.le;have hll:=hE.len;generalize rs.getD i default=s at*;have hmw:IntKind.i64.wrap (-7-(i:Int))= -7-(i:Int):=w64 (by omega) (by omega);have e1:IntKind.i64.wrap ((i:Int)+1)=((i+1:Nat):Int):=w1 (by omega);have e2:IntKind.i64.wrap (2*(s.l:Int))=2*(s.l:Int):=w64 (by omega) (by omega);have e3:IntKind.i64.wrap (2*(s.l:Int)+20)=2*(s.l:Int)+20:=w64 (by omega) (by omega);obtain⟨m1,hm1⟩:∃x,x=n1:=⟨_,rfl⟩;subst hm1;obtain⟨G1,hg1⟩:∃x,x=H1:=⟨_,rfl⟩;subst hg1;have hG0:GX 2 (mkR i) G1 m1 m1 s s 0:=⟨.inl rfl,by omega,rfl,hM1⟩;refine ak ?_;apply hK20;refine bk fun K21 hK21=> ?_;refine rg zs [0,8,12,13,14] ?_;refine rg zs [0,8,12,13,14,15] ?_;refine bk fun K22 hK22=> ?_;refine Zk (fun T' H' n'=>∃(c gk gv:Nat),c≤s.l+20∧T'=tl [(0,.loc kp 0 0 0 []),(8,.osl n ver 0 cs.length),(12,.osl p1 vel 0 i),(13,.int .i64 i),(14,.osl gk gv 0 (s.l+c)),(15,.int .i64 (2*(s.l:Int)+20))]∧m1≤n'∧GX 2 (mkR i) H' m1 n' s s 0∧GX 2 (mkR i) H' m1 n' s ⟨gk,gv,s.l+c⟩ c∧∀k,k<m1→k≠s.k→H' k=G1 k) (fun T' _ _=>2*s.l+20-ol (T' 14)) ?_ ?_
  ·exact⟨0,s.k,s.v,Nat.zero_le _,rfl,Nat.le_refl _,hG0,hG0,fun _ _ _=>rfl⟩
  rintro T1 H1 n1 ⟨c,gk,gv,hcc,rfl,hn4,hS4,hG4,hf4⟩;refine Za fun K23 hK23=> ?_;refine rg zs [0,8,12,13,14,15,168] ?_;refine Zb ?_ ?_<;>intro hb
  ·have hlc:c<s.l+20:=by have:=of_decide_eq_true hb;omega
   obtain⟨els,hk1,hel,_⟩:=id hG4.mrk;have hgl4:=hG4.lt;refine ak ?_;apply hK23;refine Zq ?_;refine QB zs [0,8,12,13,14,15] 7 rfl (by first | trivial | (show _<_;decide)) fun K V=> ?_;refine nz ?_;refine Pb (m:=mkR i) (t:=mkR i) (c:=c) (b:=1) hgl4 hk1 hG4.mrk ?_;intro gk5 gv5 H5 n5 hn5 hgl5 hor5 hmk5 hkp5 hrs5;refine nz ?_;apply V;clear V K;refine ns ?_;refine⟨⟨c+1,gk5,gv5,by omega,rfl,by omega,hS4.keep hk1 hkp5 hrs5 hn5,⟨by rcases hor5 with h | h;exact h▸hG4.key;exact .inr (by show m1≤gk5;omega),hgl5,rfl,hmk5⟩,fun k h1 h2=>(hrs5 k (by omega) (by rcases hG4.key with h | h<;>(simp only at h;omega))).trans (hf4 k h1 h2)⟩,?_⟩;show 2*s.l+20-(s.l+c+1)<2*s.l+20-(s.l+c);omega
  have hce:c=s.l+20:=by have:=of_decide_eq_false hb;omega
  subst hce;have b2:=(hf4 p1 (by omega) (by omega)).trans b2;have hmll:(ls.map BL.av).length=i:=by rw[qb,hll]
  refine ax ?_;apply hK22;refine rg1 zs [0,8,12,13] ?_;apply hK21;refine rg1 zs [0,8,12,13] ?_;have hfr:∀o x c,GX 2 (mkR i) H1 m1 n1 s x c→GX 2 (mkR i) (H1.put p1 o) m1 n1 s x c:=fun o x c h=>h.frame (Rk _ _ (by rcases h.key with e | e<;>omega)) (Nat.le_refl _);refine⟨⟨i+1,vel+1,ls++[⟨gk,gv,s.l+(s.l+20)⟩],by omega,rfl,by rw[List.take_of_length_le (by rw[hmll];omega),qj];rfl,?_⟩,by omega⟩;exact hFs _ _ _ (by omega) (hfr _ _ _ hG4) (hfr _ _ _ hS4).mrk fun j h1 h2 h3=>(Rk _ _ h3).trans (hf4 j h1 h2)
 have hge:i=rs.length:=by have:=of_decide_eq_false hb;omega
 subst hge;obtain⟨p2,hp2⟩:∃x,x=n1:=⟨_,rfl⟩;subst hp2;obtain⟨Hd,hHd⟩:∃x,x=H1:=⟨_,rfl⟩;subst hHd;have hll:=hE.len;have hEl:=hE.le;have hC:=(hE.out kC (by omega) (by omega) (nr _ (.inr (.inr rfl)))).trans hCc;have b1:=(hE.out n (by omega) (by omega) (fun h=>by obtain⟨s,hs,e⟩:=List.mem_map.1 h;have:=(hkr s hs).1;omega)).trans hbc;refine ax ?_;apply hK19;refine Za fun K24 hK24=> ?_;refine rg zs [0,8,12,16] ?_;refine Zq ?_;refine Zk (fun T' H' n'=>∃i:Nat,i≤cs.length∧T'=tl [(0,.loc kp 0 0 0 []),(8,.osl n ver 0 cs.length),(12,.osl p1 vel 0 rs.length),(16,.int .i64 i)]∧Hd=H'∧p2=n') (fun T' _ _=>cs.length-iv (T' 16)) ?_ ?_
 ·exact⟨0,Nat.zero_le _,rfl,rfl,rfl⟩
 rintro T1 H1 n1 ⟨i,hi,rfl,rfl,rfl⟩;refine Za fun K25 hK25=> ?_;refine rg zs [0,8,12,16,187] ?_;refine Zb ?_ ?_<;>intro hb
 ·have hlt:i<cs.length:=by have:=of_decide_eq_true hb;omega
  have hnth:nth (cs.map BL.av) i= .osl (cs.getD i default).k (cs.getD i default).v 0 (cs.getD i default).l:=Zr BL.av cs i hlt;have e2:nth (ms.map BL.av) i= .osl (ms.getD i default).k (ms.getD i default).v 0 (ms.getD i default).l:=Zr BL.av ms i (by omega);have hsB:=(hc _ (YJ hlt)).2;have hsk:=hkc _ (YJ hlt);have hnr:∀k,k∈rs.map (·.k)→k<n:=fun k h=>by obtain⟨s,hs,e⟩:=List.mem_map.1 h;have:=(hkr s hs).1;omega
  obtain⟨X,hx1,hx2,hx3⟩:=((hG.mrk i hlt).frame (hE.out _ (by omega) (by omega) fun h=>hdd _ h (bl_key hlt))).all;have hg:=hG.g i hlt;have hgl:=hg.l;obtain⟨Y,hy1,hy2,hy3⟩:=(hg.mrk.frame (H':=Hd) (hE.out _ (by have:=hg.lt;omega) (by have:=hg.lt;omega) fun h=>by rcases hg.key with e | e;exact hdd _ h (e▸bl_key hlt);have:=hnr _ h;omega)).all;clear hg;generalize cs.getD i default=s at*;generalize ms.getD i default=x at*;have hmw:IntKind.i64.wrap (-100-(i:Int))= -100-(i:Int):=w64 (by omega) (by omega);have e1:IntKind.i64.wrap ((i:Int)+1)=((i+1:Nat):Int):=w1 (by omega);have e3:i<ms.length:=by omega
  refine ak ?_;apply hK25;refine bk fun K26 hK26=> ?_;refine rk zs [0,8,12,16,210] fun K V=> ?_;refine ck func62 ((Us s.k s.v s.l _ (by omega) X _ _ hx1 (by omega) fun j hj=>hx3 j (by omega))) ?_;refine cg func62 (fun _=>(Us x.k x.v x.l _ (by omega) Y _ _ hy1 (by omega) fun j hj=>hy3 j (by omega))) ?_;apply V;clear V K;refine Zb ?_ ?_<;>intro hb
  ·exact absurd hb (by simp)
  refine ak ?_;apply hK26;refine rg1 zs [0,8,12,16] ?_;exact⟨⟨i+1,by omega,rfl⟩,by show cs.length-(i+1)<cs.length-i;omega⟩
 refine ax ?_;apply hK24;refine Za fun K27 hK27=> ?_;refine rg zs [0,12,17] ?_;refine Zq ?_;refine Zk (fun T' H' n'=>∃i:Nat,i≤rs.length∧T'=tl [(0,.loc kp 0 0 0 []),(12,.osl p1 vel 0 rs.length),(17,.int .i64 i)]∧Hd=H'∧p2=n') (fun T' _ _=>rs.length-iv (T' 17)) ?_ ?_
 ·exact⟨0,Nat.zero_le _,rfl,rfl,rfl⟩
 rintro T1 H1 n1 ⟨i,hi,rfl,rfl,rfl⟩;refine Za fun K28 hK28=> ?_;refine rg zs [0,12,17,217] ?_;refine Zb ?_ ?_<;>intro hb
 ·have hlt:i<rs.length:=by have:=of_decide_eq_true hb;omega
  have hnth:nth (rs.map BL.av) i= .osl (rs.getD i default).k (rs.getD i default).v 0 (rs.getD i default).l:=Zr BL.av rs i hlt;have e2:nth (ls.map BL.av) i= .osl (ls.getD i default).k (ls.getD i default).v 0 (ls.getD i default).l:=Zr BL.av ls i (by omega);have hsB:=(hr _ (YJ hlt)).2;obtain⟨X,hx1,hx2,hx3⟩:=(hE.mrk i hlt).all;have hg:=hE.g i hlt;have hgl:=hg.l;obtain⟨Y,hy1,hy2,hy3⟩:=hg.mrk.all;clear hg;generalize rs.getD i default=s at*;generalize ls.getD i default=x at*;have hmw:IntKind.i64.wrap (-7-(i:Int))= -7-(i:Int):=w64 (by omega) (by omega);have e1:IntKind.i64.wrap ((i:Int)+1)=((i+1:Nat):Int):=w1 (by omega);have e3:i<ls.length:=by omega
  refine ak ?_;apply hK28;refine bk fun K29 hK29=> ?_;refine rk zs [0,12,17,240] fun K V=> ?_;refine ck func63 ((U3 s.k s.v s.l _ (by omega) X _ _ hx1 (by omega) fun j hj=>hx3 j (by omega))) ?_;refine cg func63 (fun _=>(U3 x.k x.v x.l _ (by omega) Y _ _ hy1 (by omega) fun j hj=>hy3 j (by omega))) ?_;apply V;clear V K;refine Zb ?_ ?_<;>intro hb
  ·exact absurd hb (by simp)
  refine ak ?_;apply hK29;refine rg1 zs [0,12,17] ?_;exact⟨⟨i+1,by omega,rfl⟩,by show rs.length-(i+1)<rs.length-i;omega⟩
 refine ax ?_;apply hK27;refine rg zs [2] ?_;refine ar ?_;exact⟨by omega,fun k h1 h2 h3=>(hE.out k (by omega) (by omega) h2).trans ((hG.out k (by omega) (by omega) h3).trans ((hb9 k h2 h3)))⟩
structure F1(bs:List BL)(H:Heap)(i:Nat)(H':Heap):Prop where
 mrk:∀j,j<i→Mk H' (bs.getD j default).k (bs.getD j default).v 1 (mkB j) (tlB j) (bs.getD j default).l 0
 bl:∀j,i≤j→j<bs.length→Bl0 H' 1 (bs.getD j default)
 out:∀k,k∉bs.map (·.k)→H' k=H k
theorem Gx.keep{H H2 : Heap}{lo hi hi2 : Nat}{s : BL}{i : Nat}{x : BL}{c kk ver : Nat}{els : List AV}(h : Gx H lo hi s i x c)(hkk : H kk = some (.arr ver 1 els))(hkeep : ∀ a, Mk H kk ver 1 (mkB i) (tlB i) s.l a → Mk H2 kk ver 1 (mkB i) (tlB i) s.l a)
   (hrest:∀j,j<hi→j≠kk→H2 j=H j) (hh:hi≤hi2):Gx H2 lo hi2 s i x c:=by
 by_cases e:x.k=kk
 ·have hv : x.v = ver := by
    obtain⟨els',a,_⟩:=h.mrk;rw[e,hkk]at a;simp only[Option.some.injEq,AObj.arr.injEq]at a;exact a.1.symm
  exact⟨h.key,Nat.lt_of_lt_of_le h.lt hh,h.l,by rw[e,hv];exact hkeep _ (by rw[←e,←hv];exact h.mrk)⟩
 ·exact h.frame (hrest _ h.lt e) hh
theorem NU80.eqs{P Q:Prop}(g:Imp P Q:=by(try simp only[go_sem,seval,hsz,hmo,hst,ha1,hnth,hmw,hk1,b1,e1,qg,qb,qd]);exact Imp.rf):Imp P Q:=g
theorem NU80.inz{P Q:Prop}(g:Imp P Q:=by refine Imp.up eqs ?_;(repeat (first | (refine Imp.nd ?_ ?_;· first | exact⟨rfl,by(simp[AV.sz,AV.memOK];first | done | fail)⟩ | (simp;omega) | exact⟨by rw[hfl];omega,by rw[Pv];exact hX3 j hlj⟩) | refine Imp.pl ?_));exact Imp.rf):Imp P Q:=g
theorem NU90.eqs{P Q:Prop}(g:Imp P Q:=by(try simp only[go_sem,seval,ha,hm,hmll,hnth,hnx,h0,h1,h2,w3,w4,w5,w6,w7,w8,w9,e1,hk1,hk2,hnv,hnu,hmw,htw,bne_self_eq_false,Bool.or_false,hq,qg,qb,qd]);exact Imp.rf):Imp P Q:=g
theorem NU90.inz{P Q:Prop}(g:Imp P Q:=by refine Imp.up eqs ?_;(repeat (first | (refine Imp.nd ?_ ?_;· first | (intro g;cases g)) | refine Imp.pl ?_));exact Imp.rf):Imp P Q:=g
theorem tab_top:∀i j:Fin 16,(tabQ ((i.1:Nat):Int)).toNat/268435456=(tabQ ((j.1:Nat):Int)).toNat/268435456→i=j:=by decide +kernel
def nibS(r c:Nat):Nat:=r/16 ^^^ nibM (r%16) (c%16)
theorem M8{x y z:Nat}(h:x ^^^ z=y ^^^ z):x=y:=by
 have:=congrArg (· ^^^ z) h;simpa only[Nat.xor_assoc,Nat.xor_self,Nat.xor_zero]using this
theorem Nn{x y z:Nat}(h:z ^^^ x=z ^^^ y):x=y:=M8 (z:=z) (by rw[Nat.xor_comm x,Nat.xor_comm y];exact h)
theorem xor_top(x y:Nat):(x ^^^ y)/268435456=x/268435456 ^^^ y/268435456:=by
 have:=Nat.shiftRight_xor_distrib (a:=x) (b:=y) (i:=28);simpa [Nat.shiftRight_eq_div_pow]using this
theorem Nc{l e:Nat}(hl:l<16)(he:e<16):nibM l e=(tabQ ((l ^^^ e:Nat):Int)).toNat:=by
 have:=(KR ⟨l,hl⟩ ⟨e,he⟩).1;simp only at this;omega
theorem KQ{r r' c c':Nat}(hr:r<4294967296)(hr':r'<4294967296)(h:nibS r c/268435456=nibS r' c'/268435456):r%16 ^^^ c%16=r'%16 ^^^ c'%16:=by
 unfold nibS at h;rw[Nc (Nat.mod_lt _ odc) (Nat.mod_lt _ odc),Nc (Nat.mod_lt _ odc) (Nat.mod_lt _ odc),xor_top,xor_top,show r/16/268435456=0 by omega,show r'/16/268435456=0 by omega,Nat.zero_xor,Nat.zero_xor]at h;have h1:r%16 ^^^ c%16<16:=Nat.xor_lt_two_pow (n:=4) (Nat.mod_lt _ odc) (Nat.mod_lt _ odc);have h2:r'%16 ^^^ c'%16<16:=Nat.xor_lt_two_pow (n:=4) (Nat.mod_lt _ odc) (Nat.mod_lt _ odc);exact congrArg Fin.val (tab_top ⟨_,h1⟩ ⟨_,h2⟩ h)
theorem N9{r r' c c':Nat}(h:nibS r c=nibS r' c')(hi:r%16 ^^^ c%16=r'%16 ^^^ c'%16):r/16=r'/16:=by
 unfold nibS at h;rw[Nc (Nat.mod_lt _ odc) (Nat.mod_lt _ odc),Nc (Nat.mod_lt _ odc) (Nat.mod_lt _ odc),hi]at h;exact M8 h
theorem JC{r c:Nat}(hr:r<4294967296):nibS r c<4294967296:=Nat.xor_lt_two_pow (n:=32) om (KR ⟨r%16,Nat.mod_lt _ odc⟩ ⟨c%16,Nat.mod_lt _ odc⟩).2
theorem Jl(r c:Nat):bit8 r c=nibS (nibS r c) (c/16):=by
 unfold bit8;rw[nib,nib];rfl
theorem JK{r:Nat}(hr:r<4294967296)(c:Nat):bit8 r c<4294967296:=by rw[Jl];exact JC (JC hr)
theorem bit8_state{r r' c:Nat}(hr:r<4294967296)(hr':r'<4294967296)(h:bit8 r c=bit8 r' c):r=r':=by
 rw[Jl,Jl]at h;have e1:=KQ (JC hr) (JC hr') (congrArg (· /268435456) h);have e2:=N9 h e1;have e3:=M8 e1;have e4:nibS r c=nibS r' c:=om;have e5:=KQ hr hr' (congrArg (· /268435456) e4);have e6:=N9 e4 e5;have e7:=M8 e5;omega
theorem bit8_byte{r c c':Nat}(hr:r<4294967296)(hc:c<256)(hc':c'<256)(h:bit8 r c=bit8 r c'):c=c':=by
 rw[Jl,Jl]at h;have e1:=KQ (JC hr) (JC hr) (congrArg (· /268435456) h);have e2:=N9 h e1;have e3:nibS r c/268435456=nibS r c'/268435456:=om;have e4:=Nn (KQ hr hr e3);have e5:nibS r c=nibS r c':=by unfold nibS;rw[e4]
 rw[e5]at e1;have e6:=Nn e1;omega
def crcN(r:Nat)(l:List UInt8):Nat:=l.foldl (fun r b=>bit8 r b.toNat) r
theorem Nj:∀(l:List UInt8) {r:Nat},r<4294967296→crcN r l<4294967296
 | [],_,h=>h
 | b::l,r,h=>Nj l (JK h _)
theorem sumP_crc:∀(l:List UInt8) {r:Nat},r<4294967296→sumP (r:Int) l=((crcN r l:Nat):Int)
 | [],_,_=>rfl
 | b::l,r,h=>by
   unfold sumP crcN;rw[List.foldl_cons,List.foldl_cons,(sumS_bit h b).1];exact sumP_crc l (JK h _)
theorem crcN_inj:∀(l:List UInt8) {r r':Nat},r<4294967296→r'<4294967296→crcN r l=crcN r' l→r=r'
 | [],_,_,_,_,h=>h
 | b::l,r,r',h,h',e=>bit8_state h h' (crcN_inj l (JK h _) (JK h' _) e)
theorem Ny(b:List UInt8):sumF [b]=((4294967295 ^^^ crcN 4294967295 b:Nat):Int):=by
 unfold sumF;rw[List.foldl_cons,List.foldl_nil,show(4294967295:Int)=((4294967295:Nat):Int)from rfl,sumP_crc b odc,xor32 odc (Nj b odc)]
theorem sumF_turn(l1 l2:List UInt8){x y:UInt8}(h:sumF [l1++x::l2]=sumF [l1++y::l2]):x=y:=by
 rw[Ny,Ny]at h;have h1:=Nn (Int.ofNat.inj h);have key:∀z:UInt8,crcN 4294967295 (l1++z::l2)=crcN (bit8 (crcN 4294967295 l1) z.toNat) l2:=fun z=>by unfold crcN;rw[List.foldl_append,List.foldl_cons]
 rw[key,key]at h1;have hc:crcN 4294967295 l1<4294967296:=Nj l1 odc;exact UInt8.toNat_inj.1 (bit8_byte hc x.toNat_lt y.toNat_lt (crcN_inj l2 (JK hc _) (JK hc _) h1))
theorem sumF_lt(b:List UInt8):0≤sumF [b]∧sumF [b]<4294967296:=by
 rw[Ny];have:4294967295 ^^^ crcN 4294967295 b<4294967296:=Nat.xor_lt_two_pow (n:=32) odc (Nj b odc);omega
theorem byteI_mod{v:Int}(hv:0≤v):((Yb v).toNat:Int)=v%256:=by
 unfold Yb;simp;omega
theorem lowB_inj{v w:Int}(hv:0≤v∧v<4294967296)(hw:0≤w∧w<4294967296)(h:lowB v=lowB w):v=w:=by
 unfold lowB at h;simp only[List.cons.injEq,and_true]at h;obtain⟨h1,h2,h3,h4⟩:=h;have k:∀a b:Int,0≤a→0≤b→Yb a=Yb b→a%256=b%256:=fun a b ha hb e=>by rw[←byteI_mod ha,←byteI_mod hb,e]
 have k1:=k _ _ om om h1;have k2:=k _ _ om om h2;have k3:=k _ _ om om h3;have k4:=k _ _ om om h4;omega
theorem Va(b:List UInt8):(Yd b).length=b.length+12:=by simp[Yd,YI,lowB]
theorem frameB_set{b c:List UInt8}{i:Nat}{x:UInt8}(h:Yd c=(Yd b).set i x):Yd c=Yd b:=by
 have hl:c.length=b.length:=by have:=congrArg List.length h;rw[List.length_set,Va,Va]at this;omega
 have key:∀b:List UInt8,Yd b=YI b.length++lowB (sumF [YI b.length])++(b++lowB (sumF [b])):=fun b=>by unfold Yd;rw[qf]
 have h8:∀n,(YI n++lowB (sumF [YI n])).length=8:=fun n=>by simp[YI,lowB]
 have hb:c=b:=by
   have e1:(Yd c).drop 8=c++lowB (sumF [c]):=by rw[key,List.drop_left' (h8 _)]
   have e2:(Yd b).drop 8=b++lowB (sumF [b]):=by rw[key,List.drop_left' (h8 _)]
   have e3:c++lowB (sumF [c])=if i<8 then b++lowB (sumF [b])else(b++lowB (sumF [b])).set (i-8) x:=by
     rw[←e1,h,List.drop_set,e2]
   by_cases hi:i<8
   ·rw[if_pos hi]at e3;exact(List.append_inj e3 hl).1
   ·rw[if_neg hi]at e3;by_cases hj:i-8<b.length
    ·rw[List.set_append_left _ _ hj]at e3;obtain⟨f1,f2⟩:=List.append_inj e3 (by simpa using hl);have f3:=lowB_inj (sumF_lt c) (sumF_lt b) f2;have s1:b=b.take (i-8)++b[i-8]::b.drop (i-8+1):=by rw[List.getElem_cons_drop,List.take_append_drop]
     have s2:c=b.take (i-8)++x::b.drop (i-8+1):=by rw[f1,List.set_eq_take_append_cons_drop,if_pos hj]
     rw[s2,s1]at f3;have s3:x=b[i-8]:=by
       have t1:(b.take (i-8)++b[i-8]::b.drop (i-8+1)).take (i-8)=b.take (i-8):=by rw[←s1]
       have t2:(b.take (i-8)++b[i-8]::b.drop (i-8+1)).drop (i-8+1)=b.drop (i-8+1):=by rw[←s1]
       rw[t1,t2]at f3;exact sumF_turn _ _ f3
     rw[s2,s3];exact s1.symm
    ·rw[List.set_append_right _ _ om]at e3;exact(List.append_inj e3 hl).1
 rw[hb]
theorem ohd{P:Prop}(g:P:=by(try simp only[Rl]);(repeat first | rw[if_pos rfl] | rw[if_pos trivial] | rw[if_neg om]);first | done | rfl):P:=g
theorem rfQ_frame{b:List UInt8}(hb:b.length≤1048576):rfQ (Yd b)=(b,((8+b.length+4:Nat):Int),0):=by
 have hl:=Va b;have hN:hd4 (Yd b)=b.length:=by
   rw[hd4_num om,List.drop_zero];have:(Yd b).take 4=YI b.length:=by unfold Yd;rw[qf,qf];rfl
   rw[this,head_num om]
 have d4:(Yd b).take 4=YI b.length:=by unfold Yd;rw[qf,qf];rfl
 have d5:((Yd b).drop 4).take 4=lowB (sumF [YI b.length]):=by unfold Yd;rw[qf,qf];rfl
 have d8:(Yd b).drop 8=b++lowB (sumF [b]):=by unfold Yd;rw[qf,qf];rfl
 have d9:(Yd b).drop (8+b.length)=lowB (sumF [b]):=by rw[←List.drop_drop,d8,List.drop_left]
 have l4:∀v,(lowB v).take 4=lowB v:=fun v=>rfl;unfold rfQ;rw[hN];unfold rfN;rw[if_neg om,d5,d4,if_neg osi,if_neg om,if_neg om,d9,d8,List.take_left,l4,if_neg osi]
theorem rbB_B{b:List UInt8}{p most:Nat}{x w:List UInt8}(hx:x.length≤most)(hm:most<18446744073709551616)(hp:p≤b.length)(hd:b.drop p=Zo x++w):rbB b p most=(x,p+(Zo x).length,0):=by
 unfold Zo at hd;rw[qf]at hd;have e:=ruB_B (v:=x.length) om hp hd;have hl:=congrArg List.length hd;simp only[List.length_drop,qe]at hl;have hu:1≤(Zi x.length).length:=by rw[Zi];split<;>simp
 have d2:b.drop (p+(Zi x.length).length)=x++w:=by rw[←List.drop_drop,hd,List.drop_left]
 unfold rbB;rw[if_neg om,e];simp only;rw[if_neg osi,if_neg om,if_neg om,d2,List.take_left];unfold Zo;rw[qe,qg]
theorem Wm{v:Int}(h0:0≤v)(h1:v<18446744073709551616):((u64 v:Nat):Int)=v:=by unfold u64;omega
theorem tokB_len(q:QryE)(t:Int)(row:List UInt8)(h:row.length≤256):(tokB q t row).length≤300:=by
 unfold tokB;rw[Va];have h1:=Zp (Yc t);have h2:=Zp (Yc (sumF [YU q]));have h3:=Zp (v:=row.length) om;unfold Zo;simp only[qe];omega
theorem readQ_tok{q:QryE}{t:Int}{row:List UInt8}(h:q.token=tokB q t row)(t1:1≤t)(t2:t≤1099511627776)(hq:q.time=0∨q.time=t)(r1:row.length≠0)(r2:row.length≤256)(ha:YX q row=true):Zz q=(t,row,0):=by
 have e0:((u64 t:Nat):Int)=t:=Wm om om;have hl:=Va (Zi (u64 t)++Zo row++Zi (u64 (sumF [YU q])));have h1:=Zp (Yc t);have h2:=Zp (Yc (sumF [YU q]));have h3:=Zp (v:=row.length) om;have hb:(Zi (u64 t)++Zo row++Zi (u64 (sumF [YU q]))).length≤1048576:=by unfold Zo;simp only[qe];omega
 have er:rfQ q.token=(Zi (u64 t)++Zo row++Zi (u64 (sumF [YU q])),((8+(Zi (u64 t)++Zo row++Zi (u64 (sumF [YU q]))).length+4:Nat):Int),0):=by rw[h];exact rfQ_frame hb
 have eu:=ruB_B (b:=Zi (u64 t)++Zo row++Zi (u64 (sumF [YU q]))) (p:=0) (v:=u64 t) (w:=Zo row++Zi (u64 (sumF [YU q]))) (Yc t) (Nat.zero_le _) (by rw[List.drop_zero,qf]);rw[Nat.zero_add]at eu;have eb:=rbB_B (b:=Zi (u64 t)++Zo row++Zi (u64 (sumF [YU q]))) (p:=(Zi (u64 t)).length) (most:=256) (x:=row) (w:=Zi (u64 (sumF [YU q]))) r2 om (by simp only[qe];omega) (by rw[qf,List.drop_left]);unfold Zz;rw[if_neg (by rw[h];unfold tokB;omega),er];simp only;rw[if_neg osi,eu];simp only;have hu:q.time≠0→u64 t=u64 q.time:=fun hz=>by rw[hq.resolve_left hz]
 rw[if_neg (by
   rintro(a | a | a | ⟨a,b⟩)
   ·exact a rfl
   ·omega
   ·omega
   ·exact b (hu a)),eb]
 simp only;rw[if_neg (by
   rintro(a | a | a | a)
   ·exact a rfl
   ·exact r1 a
   ·rw[ha]at a;cases a
   ·rw[e0,←h,beq_self_eq_true]at a;cases a),e0]
theorem readQ_is{q:QryE}(h:(Zz q).2.2=0)(h0:q.token≠[]):q.token=tokB q (Zz q).1 (Zz q).2.1:=by
 unfold Zz at h ⊢;have hl:q.token.length≠0:=fun e=>h0 (List.length_eq_zero_iff.1 e);rw[if_neg hl]at h ⊢;split at h
 ·exact absurd h odc
 rename_i c1;rw[if_neg c1];split at h
 ·exact absurd h odc
 rename_i c2;rw[if_neg c2];split at h
 ·exact absurd h odc
 rename_i c3;rw[if_neg c3];simp only;have:(tokB q (ruB (rfQ q.token).1 0).1 (rbB (rfQ q.token).1 (ruB (rfQ q.token).1 0).2.1 256).1==q.token)=true:=by
   cases hh:(tokB q (ruB (rfQ q.token).1 0).1 (rbB (rfQ q.token).1 (ruB (rfQ q.token).1 0).2.1 256).1==q.token)
   ·exact absurd (.inr (.inr (.inr hh))) c3
   ·rfl
 exact(eq_of_beq this).symm
theorem readQ_err(q:QryE):(Zz q).2.2=0∨(Zz q).2.2=132:=by
 unfold Zz;split
 ·exact .inl rfl
 split
 ·exact .inr rfl
 split
 ·exact .inr rfl
 split
 ·exact .inr rfl
 ·exact .inl rfl
theorem readQ_turn{q:QryE}{q0:QryE}{t:Int}{row:List UInt8}{i:Nat}{c:UInt8}(h:q.token=(tokB q0 t row).set i c)(hf:YU q=YU q0)(hne:q.token≠tokB q0 t row):(Zz q).2.2=132:=by
 rcases readQ_err q with e | e
 ·exfalso;have hl:(tokB q0 t row).length≠0:=by unfold tokB;rw[Va];omega
  have h0:q.token≠[]:=fun e=>by rw[e]at h;exact hl (by rw[←List.length_set,←h];rfl)
  have hi:=readQ_is e h0;rw[h]at hi;unfold tokB at hi;have:=frameB_set hi.symm;apply hne;rw[h];unfold tokB;rw[hi];exact this
 ·exact e
def dirB(rev:Bool)(a b:List UInt8):Prop:=if rev then Lib.compareBytes b a<0 else Lib.compareBytes a b<0
instance (rev:Bool)(a b:List UInt8):Decidable (dirB rev a b):=by unfold dirB;infer_instance
def VA(nf:Nat)(x:RowE):Prop:=x.row.length≠0∧x.row.length≤256∧YY nf x.cells=false
def visB(q:QryE)(t:Option Tst)(x:RowE):Bool:=YX q x.row&&decide (ZI q t x.cells≠[])
def visR(q:QryE)(t:Option Tst)(x:RowE):RowE:=⟨x.row,ZI q t x.cells⟩
def visL(q:QryE)(t:Option Tst)(l:List RowE):List RowE:=(l.filter (visB q t)).map (visR q t)
def XT(q:QryE)(start:List UInt8)(has:Bool)(row:List UInt8):Bool:= !has||(if q.rev then decide (Lib.compareBytes row start<0)else decide (0≤Lib.compareBytes row start))
theorem dirB_tr{rev:Bool}{a b c:List UInt8}(h:dirB rev a b)(h':dirB rev b c):dirB rev a c:=by
 unfold dirB at*;cases rev
 ·simp only[Bool.false_eq_true,if_false]at *;exact U0 h om
 ·simp only[if_true]at *;exact U0 h' om
theorem dirB_irr{rev:Bool}{a:List UInt8}(h:dirB rev a a):False:=by
 have:=(Qp a a).2 rfl;unfold dirB at h;cases rev
 ·simp only[Bool.false_eq_true,if_false]at h;omega
 ·simp only[if_true]at h;omega
theorem beyond_on{q:QryE}{a b:List UInt8}(h:dirB q.rev a b)(ha:WE q a=true):WE q b=true:=by
 unfold WE dirB at*;cases hr:q.rev
 ·rw[hr]at h ha;simp only[Bool.false_eq_true,if_false]at h;simp only[Bool.not_false,Bool.true_and,Bool.false_and,Bool.or_false,Bool.and_eq_true,decide_eq_true_eq]at ha ⊢;refine⟨ha.1,?_⟩;have a1:=cb_ge.1 ha.2;have:=Mg.1 (PN a1 h);omega
 ·rw[hr]at h ha;simp only[if_true]at h;simp only[Bool.not_true,Bool.false_and,Bool.false_or,Bool.true_and,decide_eq_true_eq]at ha ⊢;exact U0 h om
section
variable {nf:Nat}{q:QryE}{t:Option Tst}{tk:List UInt8→List UInt8}{start:List UInt8}{has:Bool}
theorem comes_of{x:RowE}(hx:VA nf x)(ha:XT q start has x.row=true){last:Option (List UInt8)}(hl:∀r,last=some r→dirB q.rev r x.row):XR nf q x last start has=true:=by
 obtain⟨h1,h2,h3⟩:=hx;unfold XR;unfold XT at ha;rw[decide_eq_false om,h3,ha];cases last with
 | none=>rfl
 | some r=>
   have:=hl r rfl;unfold dirB at this;cases hr:q.rev
   ·rw[hr]at this;simp only[Bool.false_eq_true,if_false]at this ⊢;have:=Mg.1 this;simp[this]
   ·rw[hr]at this;simp only[if_true]at this ⊢;simp[this]
def Ke(q:QryE)(tk:List UInt8→List UInt8)(v:List RowE):PgE:=
 if (v.length:Int)<q.rows then⟨v,[],true⟩else⟨v.take q.rows.toNat,tk (v.getD (q.rows.toNat-1) default).row,false⟩
theorem ND(hs : Qc q start has): ∀ (l : List RowE) (m : Nat) (last : Option (List UInt8)) (acc : List RowE), (∀ x ∈ l, VA nf x ∧ XT q start has x.row = true) →
   l.Pairwise (fun a b=>dirB q.rev a.row b.row)→(∀r,last=some r→∀x∈l,dirB q.rev r x.row)→(acc.length:Int)<q.rows→
   ∃m',runG nf q t tk start has 0 m last acc l=(Ke q tk (acc++visL q t l),m',0)
 | [],m,last,acc,_,_,_,hk=>by
   refine⟨m+1,?_⟩;unfold runG Ke visL;simp only[List.filter_nil,List.map_nil,List.append_nil];rw[if_neg osi,if_pos hk]
 | x::l,m,last,acc,hg,hp,hl,hk=>by
   obtain⟨hx,ha⟩:=hg x osi;have hc0:=comes_of (last:=none) hx ha (fun r h=>by cases h);have hc:Yw q x.row last start has=true∧YY nf x.cells=false:=by
     refine⟨?_,hx.2.2⟩;unfold Yw;rw[if_neg (by have:=hx.1;have:=hx.2.1;omega)];cases last with
     | none=>
       unfold XT at ha;cases has with
       | false=>simp
       | true=>cases hr:q.rev<;>rw[hr]at ha<;>simpa using ha
     | some r=>
       have:=hl r rfl x osi;unfold dirB at this;cases hr:q.rev
       ·rw[hr]at this;simp only[Bool.false_eq_true,if_false]at this ⊢;simpa using Mg.1 this
       ·rw[hr]at this;simp only[if_true]at this ⊢;simpa using this
   have hb:=Jm hs hc0;have hg2:∀y∈l,VA nf y∧XT q start has y.row=true:=fun y hy=>hg y (by simp[hy]);have hp1:=(List.pairwise_cons.1 hp).1;have hp2:=(List.pairwise_cons.1 hp).2;have hl2:∀r,some x.row=some r→∀y∈l,dirB q.rev r y.row:=fun r hr y hy=>by cases hr;exact hp1 y hy
   unfold runG;rw[if_neg (by rw[hc.1];simp),if_neg (by rw[hc.2];simp)];by_cases hy:WE q x.row=true
   ·rw[if_pos hy];have hall:∀y∈x::l,visB q t y=false:=fun y hm=>by
      have e:YX q y.row=false:=by
        rcases List.mem_cons.1 hm with rfl | hm
        ·rw[hy]at hb;simpa using hb
        ·have h1:=beyond_on (hp1 y hm) hy;have h2:=Jm hs (comes_of (last:=none) (hg2 y hm).1 (hg2 y hm).2 (fun r h=>by cases h));rw[h1]at h2;simpa using h2
      unfold visB;rw[e];rfl
    have hv:visL q t (x::l)=[]:=by
      unfold visL;rw[List.filter_eq_nil_iff.2 fun y hm=>by rw[hall y hm];simp];rfl
    refine⟨m+1,?_⟩;unfold Ke;rw[hv,List.append_nil,if_pos hk]
   ·rw[if_neg hy];have hask:YX q x.row=true:=by
      cases h:YX q x.row
      ·rw[h]at hb;exact absurd osb hy
      ·rfl
    by_cases he:ZI q t x.cells=[]
    ·rw[if_pos he];have hv:visL q t (x::l)=visL q t l:=by
       unfold visL;rw[List.filter_cons_of_neg (by unfold visB;rw[hask,he];simp)]
     rw[hv];exact ND hs l (m+1) (some x.row) acc hg2 hp2 hl2 hk
    ·rw[if_neg he];have hv:visL q t (x::l)=visR q t x::visL q t l:=by
       unfold visL;rw[List.filter_cons_of_pos (by unfold visB;rw[hask,decide_eq_true he];rfl),List.map_cons]
     by_cases hr:((acc.length+1:Nat):Int)=q.rows
     ·rw[if_pos hr];refine⟨m+1,?_⟩;have hn:q.rows.toNat=acc.length+1:=om;have hlt:¬((acc++visL q t (x::l)).length:Int)<q.rows:=by rw[hv,qe,qi];omega
      unfold Ke;rw[if_neg hlt,hv,hn];have e1:(acc++visR q t x::visL q t l).take (acc.length+1)=acc++[visR q t x]:=by rw[List.take_append,List.take_of_length_le om];simp
      have e2:(acc++visR q t x::visL q t l).getD (acc.length+1-1) default=visR q t x:=by simp[List.getD]
      rw[e1,e2];rfl
     ·rw[if_neg hr];have:=ND hs l (m+1) (some x.row) (acc++[visR q t x]) hg2 hp2 hl2 (by rw[qe];simp;omega);rw[hv];rw[qf,List.singleton_append]at this;exact this
end
def dirL(q:QryE)(l:List RowE):List RowE:=if q.rev then l.reverse else l
def Wx(q:QryE)(l:List RowE):List RowE:=(dirL q l).filter fun x=>XT q (Zv q).1 (Zv q).2.1 x.row
def upL(l:List RowE):Prop:=l.Pairwise fun a b=>Lib.compareBytes a.row b.row<0
theorem dirL_up{q:QryE}{l:List RowE}(h:upL l):(dirL q l).Pairwise fun a b=>dirB q.rev a.row b.row:=by
 unfold dirL dirB;cases q.rev
 ·simp only[Bool.false_eq_true,if_false];exact h
 ·simp only[if_true];rw[List.pairwise_reverse];exact h
theorem Lb{q:QryE}{l:List RowE}{x:RowE}:x∈dirL q l↔x∈l:=by
 unfold dirL;split
 ·exact List.mem_reverse
 ·exact Iff.rfl
def allV(q:QryE)(t:Option Tst)(l:List RowE):List RowE:=visL q t (dirL q l)
theorem visL_up{q:QryE}{t:Option Tst}{l:List RowE}(h:l.Pairwise fun a b=>dirB q.rev a.row b.row):(visL q t l).Pairwise fun a b=>dirB q.rev a.row b.row:=by
 unfold visL;rw[List.pairwise_map];exact h.sublist List.filter_sublist
theorem allV_up{q:QryE}{t:Option Tst}{l:List RowE}(h:upL l):(allV q t l).Pairwise fun a b=>dirB q.rev a.row b.row:=visL_up (dirL_up h)
theorem visL_from{q:QryE}{t:Option Tst}{l:List RowE}:visL q t (Wx q l)=(allV q t l).filter fun y=>XT q (Zv q).1 (Zv q).2.1 y.row:=by
 unfold visL Wx allV visL;rw[List.filter_map,List.filter_filter,List.filter_filter];congr 1;exact List.filter_congr fun x _=>by rw[Bool.and_comm];rfl
theorem cb_snoc0(x r:List UInt8):0≤Lib.compareBytes x (r++[0])↔Lib.compareBytes r x<0:=by
 induction r generalizing x with
 | nil=>
   cases x with
   | nil=>simp[Lib.compareBytes]
   | cons a x=>
     show 0≤(if a<0 then(-1:Int)else if 0<a then 1 else Lib.compareBytes x [])↔(-1:Int)<0;have h0:¬a<0:=osi;rw[if_neg h0];have:=cb_nil x;split<;>simp_all
 | cons b r ih=>
   cases x with
   | nil=>simp[Lib.compareBytes]
   | cons a x=>
     rw[List.cons_append,Qq,Qq];by_cases h1:a<b
     ·have h2:¬b<a:=fun h=>absurd (UInt8.lt_trans h1 h) (UInt8.lt_irrefl _);rw[if_pos h1,if_neg h2,if_pos h1];decide
     ·rw[if_neg h1];by_cases h2:b<a
      ·rw[if_pos h2,if_pos h2];decide
      ·rw[if_neg h2,if_neg h2,if_neg h1];exact ih x
theorem from_none{q:QryE}{t:Option Tst}{l:List RowE}(h:q.token=[]):visL q t (Wx q l)=allV q t l:=by
 rw[visL_from];refine List.filter_eq_self.2 fun y hy=> ?_;have hr:Zz q=(0,[],0):=by unfold Zz;rw[if_pos (by rw[h];rfl)]
 have ha:YX q y.row=true:=by
   unfold allV visL at hy;obtain⟨x,hx,rfl⟩:=List.mem_map.1 hy;have:=(List.mem_filter.1 hx).2;unfold visB at this;simp only[Bool.and_eq_true]at this;exact this.1
 unfold YX at ha;simp only[Bool.and_eq_true,Bool.or_eq_true,decide_eq_true_eq]at ha;unfold XT Zv;rw[hr];simp only;rw[if_neg osi,if_neg osi];cases hv:q.rev
 ·simp only[Bool.false_eq_true,if_false];simp[ha.1]
 ·simp only[if_true];rcases ha.2 with h1 | h1
  ·simp[h1]
  ·simp[h1]
theorem from_tok{q:QryE}{t:Option Tst}{l:List RowE}{tm:Int}{r:List UInt8}(h:Zz q=(tm,r,0))(h1:1≤tm):visL q t (Wx q l)=(allV q t l).filter fun y=>decide (dirB q.rev r y.row):=by
 rw[visL_from];refine List.filter_congr fun y _=> ?_;unfold XT Zv dirB;rw[h];simp only;rw[if_neg osi,if_pos om];cases hv:q.rev
 ·simp only[Bool.false_eq_true,if_false,Bool.not_true,Bool.false_or];exact decide_eq_decide.2 (cb_snoc0 _ _)
 ·simp
theorem JY{α:Type}{R:α→α→Prop}[DecidableRel R](tr:∀a b c,R a b→R b c→R a c)(ir:∀a,¬R a a):∀(V:List α) (j:Nat) (hj:j<V.length),V.Pairwise R→V.filter (fun y=>decide (R V[j] y))=V.drop (j+1)
 | [],j,hj,_=>by simp at hj
 | a::V,0,_,h=>by
   obtain⟨h1,h2⟩:=List.pairwise_cons.1 h;simp only[List.getElem_cons_zero,List.drop_succ_cons,List.drop_zero];rw[List.filter_cons_of_neg (by simp[ir a])];exact List.filter_eq_self.2 fun y hy=>decide_eq_true (h1 y hy)
 | a::V,j+1,hj,h=>by
   obtain⟨h1,h2⟩:=List.pairwise_cons.1 h;simp only[List.getElem_cons_succ,List.drop_succ_cons];have hj':j<V.length:=by simpa using hj
   have hn:¬R V[j] a:=fun e=>ir _ (tr _ _ _ e (h1 V[j] (List.getElem_mem hj')));rw[List.filter_cons_of_neg (by simp[hn])];exact JY tr ir V j hj' h2
theorem from_at{q:QryE}{t:Option Tst}{l:List RowE}{tm:Int}{j:Nat}(hl:upL l)(hj:j<(allV q t l).length)(h:Zz q=(tm,(allV q t l)[j].row,0))(h1:1≤tm):visL q t (Wx q l)=(allV q t l).drop (j+1):=by
 rw[from_tok h h1];exact JY (R:=fun a b:RowE=>dirB q.rev a.row b.row) (fun a b c=>dirB_tr) (fun a=>dirB_irr) _ j hj (allV_up hl)
theorem run_from{fs : List Fml}{q : QryE}{clock : Int}{l : List RowE}(hq : qcE fs q = 0)(hc : 1 ≤ clock ∧ clock ≤ 1099511627776)(hl : upL l)(hg : ∀ x ∈ l, VA fs.length x):
   ∃m,runE fs q clock (some (Wx q l,0))=(Ke q (tokB q (atE q clock).1) (visL q (Z6 fs q) (Wx q l)),m,0):=by
 have hr:(Zz q).2.2=0:=by
   unfold qcE at hq;split at hq
   ·rename_i h;exact absurd hq h
   split at hq
   ·exact absurd hq odc
   split at hq
   ·rename_i h;exact absurd hq h.2
   ·exact hq
 have hrows:1≤q.rows:=by
   unfold qcE at hq;split at hq
   ·rename_i h;exact absurd hq h
   split at hq
   ·exact absurd hq odc
   rename_i h;have h:Yy fs.length q=true:=by simpa using h
   unfold Yy Uo at h;simp only[Bool.and_eq_true,decide_eq_true_eq]at h;omega
 have ha:(atE q clock).2=0:=by
   unfold atE;rw[if_neg om,if_neg (by rw[hr];simp)];split
   ·rfl
   ·split<;>rfl
 unfold runE;rw[if_neg (by rw[hq];simp),if_neg (by rw[ha];simp)]
 obtain⟨m,hm⟩:=ND (nf:=fs.length) (t:=Z6 fs q) (tk:=tokB q (atE q clock).1) (startE_ok q hr) (Wx q l) 0 none []
   (fun x hx=>by
     obtain⟨h1,h2⟩:=List.mem_filter.1 hx;exact⟨hg x (Lb.1 h1),h2⟩)
   ((dirL_up hl).sublist List.filter_sublist) (fun r h=>by cases h) oz
 exact⟨m,hm⟩
def QZ(q:QryE):QryE:={q with token:=[],rows:=1000}
def qBare(q:QryE):QryE:={QZ q with fams:=[],whr:=[]}
def qZero(b:Bool):QryE:={frm:=[],to:=[],fams:=[],pre:=[],time:=0,n:=1,rows:=1000,rev:=b,whr:=[],token:=[]}
def Yi(fs:List Fml)(q:QryE):QryE:=
 if qcE fs (QZ q)=0 then QZ q else if qcE fs (qBare q)=0 then qBare q else qZero q.rev
theorem Qg{q:QryE}(h:q.fine):(QZ q).fine:=⟨h.frm,h.to,h.fams,h.pre,h.whr,Nat.zero_le _⟩
theorem Kc{q:QryE}(h:q.fine):(qBare q).fine:=⟨h.frm,h.to,Nat.zero_le _,h.pre,Nat.zero_le _,Nat.zero_le _⟩
theorem qZero_fine(b:Bool):(qZero b).fine:=⟨Nat.zero_le _,Nat.zero_le _,Nat.zero_le _,Nat.zero_le _,Nat.zero_le _,Nat.zero_le _⟩
theorem goodE_fine{fs:List Fml}{q:QryE}(h:q.fine):(Yi fs q).fine:=by
 unfold Yi;split
 ·exact Qg h
 ·split
  ·exact Kc h
  ·exact qZero_fine _
theorem ME(fs:List Fml)(q:QryE):(Yi fs q).token=[]:=by unfold Yi;split;rfl;split<;>rfl
theorem qZero_good{fs:List Fml}(h:Zy fs=0)(b:Bool):qcE fs (qZero b)=0:=by
 unfold qcE;rw[if_neg (by simp[h]),if_neg (by cases b<;>simp[Yy,Ja,Qn,Uo,qZero]),if_neg (by rintro⟨a,_⟩;simp[qZero]at a)];rfl
theorem Pm{fs:List Fml}(h:Zy fs=0)(q:QryE):qcE fs (Yi fs q)=0:=by
 unfold Yi;split
 ·assumption
 ·split
  ·assumption
  ·exact qZero_good h _
theorem wk_qa{q:QryE}{f t m p k:AV}(hf:Wk f (bys q.frm))(ht:Wk t (bys q.to))(hm:Wk m (Zx q.fams))(hp:Wk p (bys q.pre))(hk:Wk k (bys q.token)):WkL [qaX q f t m p k] [Ze q]:=
 ⟨Wk.agg ⟨hf,ht,hm,hp,.refl _,.refl _,.refl _,.refl _,.refl _,hk,trivial⟩,trivial⟩
theorem NT40.eqs{P Q:Prop}(g:Imp P Q:=by(try simp only[go_sem,seval,hszs,hags,hmos,hnum,hnua,hnum2,hszq,hagq,hmoq,f1,f2,f3,f4,f5,f6,b1,b2,b3]);exact Imp.rf):Imp P Q:=g
set_option maxHeartbeats 3200000 in
open NT40 NY in
theorem Qy(fs:List Fml)(hfs:fs.length≤1048576)(q:QryE)(hq:q.fine){H:Heap}{n:Nat}:Ret prog 13 [Zh fs,Ze q] H n (Ze (Yi fs q)) H n:=by
 have hszs:(Zh fs).sz=1:=rfl;have hags:(Zh fs).isAgg=true:=rfl;have hmos:(Zh fs).memOK=true:=rfl;have hszq:∀q,(Ze q).sz=10:=ZT;have hagq:∀q,(Ze q).isAgg=true:=fun _=>rfl;have hmoq:∀q,(Ze q).memOK=true:=fun _=>rfl;have hnum:∀l,(Zx l).sz=1:=fun _=>rfl;have hnua:∀l,(Zx l).isAgg=false:=fun _=>rfl;have hnum2:∀l,(Zx l).memOK=true:=fun _=>rfl;have f1:(n=n+1)=False:=osi;have f2:(n+1=n)=False:=osi;have f3:(n=n+2)=False:=osi;have f4:(n+1=n+2)=False:=osi;have f5:(n+2=n)=False:=osi;have f6:(n+2=n+1)=False:=osi;have b1:=hszs;have b2:=hszs;have b3:=hszs;obtain⟨z,hz⟩:∃z,z=Yi fs q:=⟨_,rfl⟩;rw[←hz];unfold Yi at hz;refine Ret.fin ?_;refine fw func13 ntmps13 results13 ?_;refine rg zs [2,3,4] ?_;refine rk zs [2,3,4] fun K J=> ?_;refine ck func32 ((P7 q hq _ _)) ?_;apply J;clear J K;refine Zg zs [2,3,4] fun K J=> ?_
 try simp only[go_sem,seval,hszs,hags,hmos,hnum,hnua,hnum2,hszq,hagq,hmoq,f1,f2,f3,f4,f5,f6,b1,b2,b3,Ze]
 repeat refine peel ?_
 apply J;clear J K;refine Zg zs [2,3,4] fun K J=> ?_
 try simp only[go_sem,seval,hszs,hags,hmos,hnum,hnua,hnum2,hszq,hagq,hmoq,f1,f2,f3,f4,f5,f6,b1,b2,b3,Ze]
 repeat refine peel ?_
 apply J;clear J K;refine ZL [2,3,4] (fun T' H' n'=>∃(a:AV) (q2:QryE) (o:AV),T'=tl [(2,.loc n 0 0 0 []),(3,.loc (n+1) 0 0 0 []),(4,.loc (n+2) 0 0 0 [])]∧H' n=some (.arr 0 1 [Zh fs])∧H' (n+1)=some (.arr 0 10 [qaX q2 (bys q2.frm) (bys q2.to) a (bys q2.pre) (bys q2.token)])∧Wk a (Zx q2.fams)∧q2.fine∧(z=if qcE fs q2=0 then q2 else qZero q.rev)∧q2.rev=q.rev∧H' (n+2)=some (.arr 0 10 [o])∧o.sz=10∧(∀k,k<n→H' k=H k)∧n'=n+3) ?_ ?_
 ·refine QA (n+1) (els:=[qaX (QZ q) (bys q.frm) (bys q.to) (Zx q.fams) (bys q.pre) .nilsl]) (els':=[Ze (QZ q)]) ohd (wk_qa (.refl _) (.refl _) (.refl _) (.refl _) (.nilsl 1)) ?_;refine rk zs [2,3,4,12] fun K J=> ?_;refine ck func38 ((UC fs hfs (QZ q) (Qg hq) _ _)) ?_;apply J;clear J K;refine Zb ?_ ?_<;>intro hb
  ·have h1:¬qcE fs (QZ q)=0:=osb;rw[if_neg h1]at hz;refine Zg zs [2,3,4] fun K J=> ?_
   try simp only[go_sem,seval,hszs,hags,hmos,hnum,hnua,hnum2,hszq,hagq,hmoq,f1,f2,f3,f4,f5,f6,b1,b2,b3,Ze,QZ]
   repeat refine peel ?_
   apply J;clear J K;refine rg1 zs [2,3,4] ?_;refine ns ?_
   first
   | (refine ⟨.nilsl, qBare q, .agg [.nilsl, .nilsl, .nilsl, .nilsl, .int .i64 0, .int .i64 0, .int .i64 0, .bool false, .str [], .nilsl], ?_⟩
      (repeat' apply And.intro)<;>first | rfl | exact .refl _ | exact .nilsl 1 | exact(Wk.nilsl 1).2 | exact fun _ _ _ h=>h | exact Qg hq | exact Kc hq | exact hz | (rw[if_pos h1];exact hz) | (intro k hk;exact oh) | ((try simp only[Rl]);(repeat first | rw[if_pos rfl] | rw[if_pos trivial] | rw[if_neg om]);first | done | rfl))
  have h1:qcE fs (QZ q)=0:=osb;rw[if_pos h1]at hz;refine ak ?_;refine ns ?_
  first
  | (refine ⟨Zx q.fams, QZ q, .agg [.nilsl, .nilsl, .nilsl, .nilsl, .int .i64 0, .int .i64 0, .int .i64 0, .bool false, .str [], .nilsl], ?_⟩; have h7 := h1
     (repeat' apply And.intro)<;>first | rfl | exact .refl _ | exact .nilsl 1 | exact(Wk.nilsl 1).2 | exact fun _ _ _ h=>h | exact Qg hq | exact Kc hq | exact hz | (rw[if_pos h1];exact hz) | (intro k hk;exact oh) | ((try simp only[Rl]);(repeat first | rw[if_pos rfl] | rw[if_pos trivial] | rw[if_neg om]);first | done | rfl))
 rintro T8 H8 n8 ⟨a,q2,o,rfl,b1,b2,hwk,hq2,hz2,hrv,b3,ho,hlow,rfl⟩;refine Za fun K1 hK1=> ?_;refine QA (n+1) (els':=[Ze q2]) b2 (wk_qa (.refl _) (.refl _) hwk (.refl _) (.refl _)) ?_;refine rk zs [3,4,18] fun K J=> ?_;refine ck func38 ((UC fs hfs q2 hq2 _ _)) ?_;apply J;clear J K;refine Zb ?_ ?_<;>intro hb
 ·have h2:¬qcE fs q2=0:=osb;rw[if_neg h2]at hz2;refine Zg zs [4] fun K J=> ?_
  try simp only[go_sem,seval,hszs,hags,hmos,hnum,hnua,hnum2,hszq,hagq,hmoq,f1,f2,f3,f4,f5,f6,b1,b2,b3,Ze,b3,ho,hrv]
  repeat refine peel ?_
  apply J;clear J K;refine ar ?_;rw[hz2];exact⟨_,rfl,fun k hk=>ohx (hlow k hk),.agg (.cons .nilsl (.cons .nilsl (.cons .nilsl (.cons .nilsl (.cons (.kl trivial) (.cons (.kl trivial) (.cons (.kl trivial) (.cons (.kl trivial) (.cons (.kl trivial) (.cons .nilsl .nil))))))))))⟩
 have h2:qcE fs q2=0:=osb;rw[if_pos h2]at hz2;refine ak ?_;apply hK1;refine kag ?_;rw[hz2];exact⟨_,rfl,fun k hk=>ohx (hlow k hk),.kl (kl_qry _ _)⟩
theorem NT41.eqs{P Q:Prop}(g:Imp P Q:=by(try simp only[go_sem,seval,hnum,hnua,hnum2,hszq,hagq,hmoq,f1,f2,Ze]);exact Imp.rf):Imp P Q:=g
theorem dirL_take{q:QryE}{l:List RowE}{i:Nat}(h:i<l.length)(p:RowE→Bool):((dirL q l).take (i+1)).filter p=((dirL q l).take i).filter p++(if p ((dirL q l).getD i default)then[(dirL q l).getD i default]else[]):=by
 have hl:(dirL q l).length=l.length:=by unfold dirL;split<;>simp
 rw[List.take_succ_eq_append_getElem om,List.filter_append];congr 1;have e:(dirL q l).getD i default=(dirL q l)[i]'om:=by simp[List.getD,hl,h]
 rw[e];simp[List.filter_cons]
theorem dirL_at{q:QryE}{l:List RowE}{i:Nat}(h:i<l.length):(dirL q l).getD i default=if q.rev then l.getD (l.length-1-i) default else l.getD i default:=by
 unfold dirL;cases q.rev
 ·rfl
 ·simp only[if_true];simp[List.getD,List.getElem?_reverse h]
theorem NT42.eqs{P Q:Prop}(g:Imp P Q:=by(try simp only[go_sem,seval,hnum,hnua,hnum2,hszq,hagq,hmoq,hszr,hagr,hmor,b1,b2,hnth,hn2,e1,e2,e3,g1,g2,hse,Yt,qg,qb,qd,Zt]);exact Imp.rf):Imp P Q:=g
theorem NT42.sd{P:Prop}(g:P:=by first | (intro _ h8 h9;rw[h8,h9];rfl) | (intro _ h8;rw[h8];rfl) | exact⟨om,om⟩ | exact⟨rfl,by(simp[AV.sz,AV.szs,AV.memOK,hszr,hmor];first | done | fail)⟩ | exact⟨Nat.le_refl _,.inr trivial,om,om⟩ | fail):P:=g
set_option maxHeartbeats 6400000 in
open NT42 NZ in
theorem c_law13_from(q:QryE)(hq:q.fine)(hr0:(Zz q).2.2=0)(l:List RowE)(hl:YA l){H:Heap}{n:Nat}(hG:GOK 1 1 H n):Ret prog 15 [Ze q,.sl 2 (l.map Zf)] H n (.tup [.sl 2 ((Wx q l).map Zf),.bool true]) H n:=by
 have hszq:∀q,(Ze q).sz=10:=ZT;have hagq:∀q,(Ze q).isAgg=true:=fun _=>rfl;have hmoq:∀q,(Ze q).memOK=true:=fun _=>rfl;have hnum:∀l,(Zx l).sz=1:=fun _=>rfl;have hnua:∀l,(Zx l).isAgg=false:=fun _=>rfl;have hnum2:∀l,(Zx l).memOK=true:=fun _=>rfl;have hszr:∀r,(Zf r).sz=2:=Ws;have hagr:∀r,(Zf r).isAgg=true:=fun _=>rfl;have hmor:∀r,(Zf r).memOK=true:=fun _=>rfl;have hls:=hl.1;have hse:(Zv q).2.2=0:=by unfold Zv;rw[if_neg (by simp[hr0])];split;rfl;split<;>rfl
 have b1:=hls;have b2:=hls;have hnth:=hls;have hn2:=hls;have e1:=hls;have e2:=hls;have e3:=hls;have g1:=hls;have g2:=hls;have hge:∀a b:List UInt8,(!Op.bytesLess a b)=decide (0≤Lib.compareBytes a b):=fun a b=>by
   rw[(Xh a b).2,Bool.eq_iff_iff];simp
 have hlt:∀a b:List UInt8,Op.bytesLess a b=decide (Lib.compareBytes a b<0):=fun a b=>(Xh a b).2;obtain⟨F,hF⟩:∃F:Nat→List RowE,F=fun i=>((dirL q l).take i).filter fun x=>XT q (Zv q).1 (Zv q).2.1 x.row:=⟨_,rfl⟩;have hFl:∀i,(F i).length≤i:=fun i=>by rw[hF];exact Nat.le_trans (List.length_filter_le _ _) (by rw[qk];omega)
 refine Ret.fin ?_;refine fw func15 ntmps15 results15 ?_;refine rg zs [1,2] ?_;refine rk zs [1,2,6,7,8] fun K J=> ?_;refine ck func24 ((Uz hq (hG.on (fun k hk=>oh) om) (QL.ro q _))) ?_;apply J;clear J K;refine Za fun K1 hK1=> ?_;refine rk zs [1,2,6,7,22] fun K J=> ?_;refine ck func20 ((Wj _ _ _)) ?_;apply J;clear J K;refine Zb ?_ ?_<;>intro hb
 ·exact absurd hb osi
 refine ak ?_;apply hK1;refine rg zs [1,2,6,7,9] ?_;refine Za fun K2 hK2=> ?_;refine rg zs [1,2,6,7,9,10] ?_;refine kbM ?_;refine ZN 9 2 rfl ?_;refine Yl [1,2,6,7,9,10] ?_;refine ns ?_;refine Zk (fun T' H' n'=>∃(i ver:Nat),i≤l.length∧T'=tl [(1,.sl 2 (l.map Zf)),(2,.loc n 0 0 0 []),(6,bys (Zv q).1),(7,.bool (Zv q).2.1),(9,.osl (n+1) ver 0 (F i).length),(10,.int .i64 i)]∧H' n=some (.arr 0 10 [Ze q])∧H' (n+1)=some (.arr ver 2 ((F i).map Zf))∧(∀k,k<n→H' k=H k)∧n+2≤n') (fun T' _ _=>l.length-iv (T' 10)) ?_ ?_
 ·exact⟨0,0,Nat.zero_le _,by rw[hF];rfl,oh,by rw[hF];refine ohx ?_;rfl,fun k hk=>oh,om⟩
 rintro T1 H1 n1 ⟨i,ver,hi,rfl,b1,b2,hlow,hn1⟩;refine Za fun K3 hK3=> ?_;refine rg zs [1,2,6,7,9,10,26] ?_;refine Zb ?_ ?_<;>intro hb
 ·have hci:i<l.length:=ott;have hnth:nth (l.map Zf) i=Zf (l.getD i default):=Zr Zf l i hci;have hn2:nth (l.map Zf) (l.length-1-i)=Zf (l.getD (l.length-1-i) default):=Zr Zf l _ om;have e1:IntKind.i64.wrap ((i:Int)+1)=((i+1:Nat):Int):=w1 om;have e2:IntKind.i64.wrap ((l.length:Int)-1)=((l.length-1:Nat):Int):=by rw[w64 om om];omega
  have e3:IntKind.i64.wrap (((l.length-1:Nat):Int)-(i:Int))=((l.length-1-i:Nat):Int):=by rw[w64 om om];omega
  have g1:(n=n1)=False:=oz;have g2:(n+1=n1)=False:=oz;have hst:=dirL_take (q:=q) hci (fun x=>XT q (Zv q).1 (Zv q).2.1 x.row);have hF1:F (i+1)=F i++(if XT q (Zv q).1 (Zv q).2.1 ((dirL q l).getD i default).row then[(dirL q l).getD i default]else[]):=by rw[hF];exact hst
  have hda:=dirL_at (q:=q) hci;have hFi:=hFl i;obtain⟨x,hx⟩:∃x,x=(dirL q l).getD i default:=⟨_,rfl⟩;rw[←hx]at hF1 hda;refine ak ?_;apply hK3;refine ZL [1,2,6,7,9,10] (fun T' H' n'=>∃ver,T'=tl [(1,.sl 2 (l.map Zf)),(2,.loc n 0 0 0 []),(6,bys (Zv q).1),(7,.bool (Zv q).2.1),(9,.osl (n+1) ver 0 (F (i+1)).length),(10,.int .i64 i)]∧H' n=some (.arr 0 10 [Ze q])∧H' (n+1)=some (.arr ver 2 ((F (i+1)).map Zf))∧(∀k,k<n→H' k=H k)∧n+2≤n') ?_ ?_
  ·refine kbM ?_;refine rg zs [1,2,6,7,9,10,11] ?_;refine ZL [1,2,6,7,9,10,11] (fun T' H' n'=>T'=tl [(1,.sl 2 (l.map Zf)),(2,.loc n 0 0 0 []),(6,bys (Zv q).1),(7,.bool (Zv q).2.1),(9,.osl (n+1) ver 0 (F i).length),(10,.int .i64 i),(11,.loc n1 0 0 0 [])]∧H'=H1.put n1 (some (.arr 0 2 [Zf x]))∧n'=n1+1) ?_ ?_
   ·refine Zg zs [1,2,6,7,9,10,11,34] fun K J=> ?_
    try simp only[go_sem,seval,hnum,hnua,hnum2,hszq,hagq,hmoq,hszr,hagr,hmor,b1,b2,hnth,hn2,e1,e2,e3,g1,g2,hse,Yt,qg,qb,qd,Zt,Ze]
    repeat refine peel ?_
    apply J;clear J K;refine Zb ?_ ?_<;>intro hb
    ·rw[if_pos hb]at hda;refine rg1 zs [1,2,6,7,9,10,11] ?_;refine ns ?_;rw[hda]
    rw[if_neg (by simp[hb])]at hda;refine ak ?_;refine ns ?_;rw[hda]
   rintro T8 H8 n8 ⟨rfl,rfl,rfl⟩;refine Zg zs [1,2,6,7,9,10,11,12] fun K J=> ?_
   try simp only[go_sem,seval,hnum,hnua,hnum2,hszq,hagq,hmoq,hszr,hagr,hmor,b1,b2,hnth,hn2,e1,e2,e3,g1,g2,hse,Yt,qg,qb,qd,Zt,Ze,Zf,bys]
   repeat (first | (refine And.intro ?_ ?_;· first | (intro _;exact Yg _) | (intro _ h8;rw[h8];rfl)) | refine peel ?_)
   apply J;clear J K;refine Zg zs [1,2,6,7,9,10,11,12,13] fun K J=> ?_
   try simp only[go_sem,seval,hnum,hnua,hnum2,hszq,hagq,hmoq,hszr,hagr,hmor,b1,b2,hnth,hn2,e1,e2,e3,g1,g2,hse,Yt,qg,qb,qd,Zt,Ze,Zf,bys]
   repeat (first | (refine And.intro ?_ ?_;· first | (intro _;exact Yg _) | (intro _ h8;rw[h8];rfl)) | refine peel ?_)
   apply J;clear J K;refine rg zs [1,2,6,7,9,10,11,73] ?_;refine Zb ?_ ?_<;>intro hb
   ·have hyes:XT q (Zv q).1 (Zv q).2.1 x.row=true:=by unfold XT;have h9:=hb;clear hb;revert h9;cases (Zv q).2.1<;>cases q.rev<;>intro h9<;>first | rfl | (simp[hlt]at h9 ⊢;omega) | (simp at h9;done)
    refine rg1 zs [1,2,6,7,9,10] ?_;refine ns ?_
    first
    | (rw [hF1, hyes, if_pos rfl]
       rw[List.take_of_length_le (show((F i).map Zf).length≤(F i).length by simp)];refine⟨ver+1,?_⟩;(repeat' apply And.intro)<;>first | rfl | (rw[qe];rfl) | ((try simp only[Rl]);(repeat first | rw[if_pos rfl] | rw[if_pos trivial] | rw[if_neg om]);first | done | exact b1 | exact b2 | (rw[qj];rfl)) | (intro k hk;refine ohx ?_;exact hlow k hk) | omega)
   have hno:XT q (Zv q).1 (Zv q).2.1 x.row=false:=by unfold XT;have h9:=hb;clear hb;revert h9;cases (Zv q).2.1<;>cases q.rev<;>intro h9<;>first | rfl | (simp[hlt]at h9 ⊢;omega) | (simp at h9;done)
   refine ak ?_;refine ns ?_
   first
   | (rw [hF1, hno, if_neg osi, List.append_nil]
      refine⟨ver,?_⟩;(repeat' apply And.intro)<;>first | rfl | (rw[qe];rfl) | ((try simp only[Rl]);(repeat first | rw[if_pos rfl] | rw[if_pos trivial] | rw[if_neg om]);first | done | exact b1 | exact b2 | (rw[qj];rfl)) | (intro k hk;refine ohx ?_;exact hlow k hk) | omega)
  rintro T3 H3 n3 ⟨ver3,rfl,b1,b2,hlow,hn3⟩;refine rg1 zs [1,2,6,7,9,10] ?_;exact⟨⟨i+1,ver3,om,rfl,rfl,hlow,hn3⟩,om⟩
 have hci:i=l.length:=otf;refine ax ?_;apply hK2;refine rg zs [4,5] ?_;refine ar ?_;subst hci;have hFe:F l.length=Wx q l:=by rw[hF];unfold Wx;show List.filter _ (List.take l.length (dirL q l))=_;rw[List.take_of_length_le (by unfold dirL;split<;>simp)]
 rw[hFe]at b2 ⊢;exact⟨_,rfl,hlow,.tup (.cons (.osl b2 om osi (by rw[List.drop_zero,List.take_of_length_le osi];exact XM _ (Xq Zf (fun r=>kl_row r _) _))) (.cons (.kl trivial) .nil))⟩
theorem J9:Zy twoF=0:=by decide +kernel
theorem LM{fs:List Fml}{q:QryE}(h:qcE fs q=0):Zy fs=0∧Yy fs.length q=true∧¬(0<q.whr.length∧(Xc fs q.whr).2.1≠0)∧(Zz q).2.2=0:=by
 unfold qcE at h;split at h
 ·rename_i a;exact absurd h a
 rename_i a;split at h
 ·exact absurd h odc
 rename_i b;split at h
 ·rename_i c;exact absurd h c.2
 rename_i c;exact⟨by simpa using a,by simpa using b,c,h⟩
theorem qcE_of{fs:List Fml}{q:QryE}(h1:Zy fs=0)(h2:Yy fs.length q=true)(h3:¬(0<q.whr.length∧(Xc fs q.whr).2.1≠0)):qcE fs q=(Zz q).2.2:=by
 unfold qcE;rw[if_neg (by simp[h1]),if_neg (by simp[h2]),if_neg h3]
def qTok(q:QryE):QryE:={Yi twoF q with frm:=[],to:=[],fams:=[],pre:=[],whr:=[],rows:=1}
theorem readQ_nil{q:QryE}(h:q.token=[]):Zz q=(0,[],0):=by unfold Zz;rw[if_pos (by rw[h];rfl)]
theorem qTok_fits(q:QryE)(t:List UInt8):Yy twoF.length {qTok q with token:=t}=true:=by
 have h:=(LM (Pm J9 q)).2.1;unfold Yy Uo at h;simp only[Bool.and_eq_true,decide_eq_true_eq]at h;unfold Yy Uo Ja Qn qTok;simp;omega
theorem qTok_qcE(q:QryE)(t:List UInt8):qcE twoF {qTok q with token:=t}=(Zz {qTok q with token:=t}).2.2:=qcE_of J9 (qTok_fits q t) (by rintro⟨a,_⟩;simp[qTok]at a)
def atT(q:QryE):Int:=if (qTok q).time≠0 then(qTok q).time else 5
theorem atT_in(q:QryE):1≤atT q∧atT q≤1099511627776∧((qTok q).time=0∨(qTok q).time=atT q):=by
 have h:=qTok_fits q [];unfold Yy Uo at h;simp only[Bool.and_eq_true,decide_eq_true_eq]at h;obtain⟨_,h⟩:=h;have h1:0≤(qTok q).time∧(qTok q).time≤1099511627776:=⟨h.1.1.1.1.1.2,h.1.1.1.1.2⟩;unfold atT;split
 ·exact⟨om,om,.inr rfl⟩
 ·exact⟨om,om,.inl om⟩
def rowT(q:QryE):List UInt8:=if (qTok q).rev then[114,51]else[114,49]
def tokT(q:QryE):List UInt8:=tokB (qTok q) (atT q) (rowT q)
theorem rowT_len(q:QryE):(rowT q).length=2:=by unfold rowT;split<;>rfl
theorem ask_row{q:QryE}(h1:q.frm=[])(h2:q.to=[])(r:List UInt8):YX q r=true:=by
 unfold YX;rw[h1,h2];have:=cb_nil r;simp[this]
def qTrn(q:QryE)(t:List UInt8):QryE:={qTok q with token:=t}
theorem turned{q:QryE}{i:Nat}{c:UInt8}{t:List UInt8}(h:t=(tokT q).set i c):((qcE twoF (qTrn q t)==132)== !(t==tokT q))=true:=by
 have hq:=qTok_qcE q t;by_cases e:t=tokT q
 ·obtain⟨a1,a2,a3⟩:=atT_in q;have hr:Zz (qTrn q t)=(atT q,rowT q,0):=readQ_tok (q:=qTrn q t) (t:=atT q) (row:=rowT q) e a1 a2 a3 (by rw[rowT_len];decide) (by rw[rowT_len];decide) (ask_row rfl rfl _);have:qcE twoF (qTrn q t)=0:=by unfold qTrn;rw[hq];show(Zz (qTrn q t)).2.2=0;rw[hr]
  rw[this,e];simp
 ·have hr:=readQ_turn (q:=qTrn q t) (q0:=qTok q) (t:=atT q) (row:=rowT q) (i:=i) (c:=c) h rfl e;have:qcE twoF (qTrn q t)=132:=by unfold qTrn;rw[hq];exact hr
  rw[this,beq_eq_false_iff_ne.2 e];rfl
theorem from_ok{q:QryE}{l:List RowE}(h:YA l):YA (Wx q l):=by
 refine⟨?_,fun x hx=>h.2 x (Lb.1 (List.mem_filter.1 hx).1)⟩;refine Nat.le_trans (List.length_filter_le _ _) ?_;have:(dirL q l).length=l.length:=by unfold dirL;split<;>simp
 rw[this];exact h.1
theorem retGok{f:FuncId}{args:List AV}{r:AV}{H:Heap}{n:Nat}(ha:(1:Nat)≠1→H 1=some (.glob 5 LZ))(hb:H 1=some (.glob 1 Ux))(h:GOK 1 1 H n→Ret prog f args H n r H n):Ret prog f args H n r H n:=
 Ret.below hb fun g2=>by
   by_cases hne:(1:Nat)=1
   ·exact h ⟨ha,hb,om,g2⟩
   ·exact Ret.below (ha hne) fun g1=>h ⟨ha,hb,g1,g2⟩
theorem Nk{q:QryE}(hq:q.fine)(H:Heap):Jr prog (.fn (.func 13) [] []) [Zh twoF,Ze q] H (Ze (Yi twoF q)):=fun m=>Zu func13 rfl rfl rfl (Qy twoF odc q hq) ⟨rfl,rfl,rfl⟩
theorem NT60.eqs{P Q:Prop}(g:Imp P Q:=by(try simp only[go_sem,seval,hnum,hnua,hnum2,hszq,hagq,hmoq,hszp,hagp,hmop,f1,f2,f3,f4,f5,f6,b1,b2,b3,b4,g1,g2,g3,g4,qg,qb,qd]);exact Imp.rf):Imp P Q:=g
def Vp(nf:Nat)(c:CelE):Bool:=decide (0≤c.fam)&&decide (c.fam<(nf:Int))
def Nr(nf:Nat)(x:RowE):RowE:=⟨x.row,x.cells.filter (Vp nf)⟩
def posN(l:List RowE)(r:List UInt8):Nat:=(l.takeWhile fun y=>decide (Lib.compareBytes y.row r<0)).length
def putN(l:List RowE)(r:RowE):List RowE:=
 if posN l r.row<l.length∧(l.getD (posN l r.row) default).row=r.row then l else l.take (posN l r.row)++[r]++l.drop (posN l r.row)
def UR(nf:Nat)(l:List RowE)(x:RowE):List RowE:=if x.row.length<1∨256<x.row.length then l else putN l (Nr nf x)
def KS(nf:Nat)(l:List RowE):List RowE:=l.foldl (UR nf) []
def UX(nf:Nat)(l:List RowE):List RowE:=KS nf (l.take 40)
theorem putN_len(l:List RowE)(r:RowE):(putN l r).length≤l.length+1:=by
 unfold putN;split
 ·omega
 ·simp;omega
theorem stepN_len(nf:Nat)(l:List RowE)(x:RowE):(UR nf l x).length≤l.length+1:=by
 unfold UR;split
 ·omega
 ·exact putN_len _ _
theorem foldN_len(nf:Nat):∀(m l:List RowE),(m.foldl (UR nf) l).length≤l.length+m.length
 | [],l=>osi
 | x::m,l=>by
   rw[List.foldl_cons,qi];have:=foldN_len nf m (UR nf l x);have:=stepN_len nf l x;omega
theorem neatF_len(nf:Nat)(l:List RowE):(KS nf l).length≤l.length:=by have:=foldN_len nf l [];simpa [KS]using this
theorem neatF_snoc(nf:Nat){l:List RowE}{i:Nat}(h:i<l.length):KS nf (l.take (i+1))=UR nf (KS nf (l.take i)) (l.getD i default):=by
 unfold KS;rw[List.take_succ_eq_append_getElem h,List.foldl_append];simp[List.getD,h]
theorem posN_is{l:List RowE}{r:List UInt8}{a:Nat}(ha:a≤l.length)(h1:∀j,j<a→Lib.compareBytes (l.getD j default).row r<0)(h2:a=l.length∨¬Lib.compareBytes (l.getD a default).row r<0):posN l r=a:=by
 unfold posN
 induction l generalizing a with
 | nil=>simp at ha;simp[ha]
 | cons y l ih=>
   cases a with
   | zero=>
     rcases h2 with h2 | h2
     ·simp at h2
     ·rw[List.takeWhile_cons_of_neg (by simpa using h2)];rfl
   | succ a=>
     have h0:=h1 0 om;rw[List.takeWhile_cons_of_pos (by simpa using h0),qi];congr 1;exact ih (by simpa using ha) (fun j hj=>by have:=h1 (j+1) om;simpa using this) (by rcases h2 with h2 | h2;exact .inl (by simpa using h2);exact .inr (by simpa using h2))
theorem fz_cels{k ver:Nat}(l:List CelE):FzV k ver 4 (l.map Zj) (.osl k ver 0 l.length) (.sl 4 (l.map Zj)):=by
 have h:=FzV.osl (k:=k) (ver:=ver) (e:=4) (els:=l.map Zj) (off:=0) (len:=l.length) osi
 rwa [List.drop_zero,List.take_of_length_le osi]at h
theorem fz_rows{k ver:Nat}(l:List RowE):FzV k ver 2 (l.map Zf) (.osl k ver 0 l.length) (.sl 2 (l.map Zf)):=by
 have h:=FzV.osl (k:=k) (ver:=ver) (e:=2) (els:=l.map Zf) (off:=0) (len:=l.length) osi
 rwa [List.drop_zero,List.take_of_length_le osi]at h
theorem NT70.eqs{P Q:Prop}(g:Imp P Q:=by(try simp only[go_sem,seval,hszs,hags,hmos,hszr,hagr,hmor,hszc,hagc,hmoc,b1,b2,b3,hnth,hntc,hntl,e1,e2,e3,g1,g2,g3,g4,g5,g6,qg,qb,qd,Zt]);exact Imp.rf):Imp P Q:=g
theorem NT70.sd{P:Prop}(g:P:=by first | (intros;simp_all;done) | fail):P:=g
set_option maxHeartbeats 6400000 in
open NT70 NZ in
theorem c_law13_neat(fs:List Fml)(hfs:fs.length≤1048576)(l:List RowE)(hl:YA l)(H:Heap)(n:Nat):Ret prog 16 [Zh fs,.sl 2 (l.map Zf)] H n (.sl 2 ((UX fs.length l).map Zf)) H n:=by
 have hszs:(Zh fs).sz=1:=rfl;have hags:(Zh fs).isAgg=true:=rfl;have hmos:(Zh fs).memOK=true:=rfl;have hszr:∀r,(Zf r).sz=2:=Ws;have hagr:∀r,(Zf r).isAgg=true:=fun _=>rfl;have hmor:∀r,(Zf r).memOK=true:=fun _=>rfl;have hszc:∀r,(Zj r).sz=4:=Yp;have hagc:∀r,(Zj r).isAgg=true:=fun _=>rfl;have hmoc:∀r,(Zj r).memOK=true:=fun _=>rfl;have hls:=hl.1;have hlt:∀a b:List UInt8,Op.bytesLess a b=decide (Lib.compareBytes a b<0):=fun a b=>(Xh a b).2;obtain⟨N,hN⟩:∃N:Nat→List RowE,N=fun i=>KS fs.length (l.take i):=⟨_,rfl⟩;have hNl:∀i,(N i).length≤i:=fun i=>by rw[hN];exact Nat.le_trans (neatF_len _ _) (by rw[qk];omega)
 have b1:=hls;have b2:=hls;have b3:=hls;have hnth:=hls;have hntc:=hls;have hntl:=hls;have e1:=hls;have e2:=hls;have e3:=hls;have g1:=hls;have g2:=hls;have g3:=hls;have g4:=hls;have g5:=hls;have g6:=hls;refine Ret.fin ?_;refine fw func16 ntmps16 results16 ?_;refine rg zs [1,2] ?_;refine rg zs [1,2,5] ?_;refine Za fun K1 hK1=> ?_;refine rg zs [1,2,5,6] ?_;refine Zq ?_;refine P9 5 (.sl 2 []) (.nilsl 2) ?_;refine Yl [1,2,5,6] ?_;refine ns ?_;refine Zk (fun T' H' n'=>∃i:Nat,i≤l.length∧i≤40∧T'=tl [(1,.sl 2 (l.map Zf)),(2,.loc n 0 0 0 []),(5,.sl 2 ((N i).map Zf)),(6,.int .i64 i)]∧H' n=some (.arr 0 1 [Zh fs])∧(∀k,k<n→H' k=H k)∧n+1≤n') (fun T' _ _=>l.length-iv (T' 6)) ?_ ?_
 ·exact⟨0,Nat.zero_le _,Nat.zero_le _,by rw[hN];rfl,ohd,fun k hk=>oh,om⟩
 rintro T1 H1 n1 ⟨i,hi,hi40,rfl,b1,hlow,hn1⟩;refine Za fun K2 hK2=> ?_;refine rg zs [1,2,5,6,19] ?_;refine Zb ?_ ?_<;>intro hb
 ·have hc2:=Vw hb;have hci:i<l.length:=by have:=of_decide_eq_true hc2.1;omega
  have hcj:i<40:=by have:=of_decide_eq_true hc2.2;omega
  have hnth:nth (l.map Zf) i=Zf (l.getD i default):=Zr Zf l i hci;have e1:IntKind.i64.wrap ((i:Int)+1)=((i+1:Nat):Int):=w1 om;have hxb:=hl.2 _ (Yj l hci);have hNs:N (i+1)=UR fs.length (N i) (l.getD i default):=by rw[hN];exact neatF_snoc _ hci
  obtain⟨x,hx⟩:∃x,x=l.getD i default:=⟨_,rfl⟩;rw[←hx]at hnth hxb hNs;clear hx;have hNi:=hNl i;obtain⟨L,hL⟩:∃L,L=N i:=⟨_,rfl⟩;rw[←hL]at hNs hNi ⊢;have g1:(n=n1)=False:=oz;have g2:(n=n1+1)=False:=oz;have g3:(n1=n1+1)=False:=osi;have g4:(n1+1=n1)=False:=osi;refine ak ?_;apply hK2;refine bk fun K3 hK3=> ?_;refine Zg zs [1,2,5,6,7] fun K J=> ?_
  try simp only[go_sem,seval,hszs,hags,hmos,hszr,hagr,hmor,hszc,hagc,hmoc,b1,b2,b3,hnth,hntc,hntl,e1,e2,e3,g1,g2,g3,g4,g5,g6,qg,qb,qd,Zt,Zf]
  repeat (first | (refine And.intro ?_ ?_;· first | exact⟨om,om⟩) | refine peel ?_)
  refine Zu func23 rfl rfl rfl ((Y9 x.row hxb.1 _ _)) ?_
  try simp only[go_sem,seval,hszs,hags,hmos,hszr,hagr,hmor,hszc,hagc,hmoc,b1,b2,b3,hnth,hntc,hntl,e1,e2,e3,g1,g2,g3,g4,g5,g6,qg,qb,qd,Zt,Zf]
  repeat refine peel ?_
  apply J;clear J K;refine Za fun K4 hK4=> ?_;refine rg zs [1,2,5,6,7,8] ?_;refine Zq ?_;obtain⟨p,hp⟩:∃p,p=n1:=⟨_,rfl⟩;subst hp;refine ZO p 4 (ver:=0) (e:=2) (els:=[.agg [bys x.row,.nilsl]]) (els':=[.agg [bys x.row,.osl (p+1) 0 0 0]]) ohd ⟨Adp.agg ⟨.refl _ _,Adp.nilsl _,trivial⟩,trivial⟩ ?_;refine Zk (fun T' H' n'=>∃(j ver:Nat),j≤x.cells.length∧T'=tl [(1,.sl 2 (l.map Zf)),(2,.loc n 0 0 0 []),(5,.sl 2 (L.map Zf)),(6,.int .i64 i),(7,.loc p 0 0 0 []),(8,.int .i64 j)]∧H' n=some (.arr 0 1 [Zh fs])∧H' p=some (.arr 0 2 [.agg [bys x.row,.osl (p+1) ver 0 ((x.cells.take j).filter (Vp fs.length)).length]])∧H' (p+1)=some (.arr ver 4 (((x.cells.take j).filter (Vp fs.length)).map Zj))∧(∀k,k<n→H' k=H k)∧p+2≤n') (fun T' _ _=>x.cells.length-iv (T' 8)) ?_ ?_
  ·exact⟨0,0,Nat.zero_le _,rfl,ohx b1,ohd,ohd,fun k hk=>ohx (hlow k hk),om⟩
  rintro T1 H1 n1 ⟨j,ver,hj,rfl,b1,b2,b3,hlow,hn1⟩;refine Za fun K5 hK5=> ?_;refine Zg zs [1,2,5,6,7,8,36] fun K J=> ?_
  try simp only[go_sem,seval,hszs,hags,hmos,hszr,hagr,hmor,hszc,hagc,hmoc,b1,b2,b3,hnth,hntc,hntl,e1,e2,e3,g1,g2,g3,g4,g5,g6,qg,qb,qd,Zt,Zf]
  repeat (first | (refine And.intro ?_ ?_;· first | exact⟨om,om⟩) | refine peel ?_)
  apply J;clear J K;refine Zb ?_ ?_<;>intro hb
  ·have hcl:j<x.cells.length:=ott;have hntc:nth (x.cells.map Zj) j=Zj (x.cells.getD j default):=Zr Zj x.cells j hcl;have e2:IntKind.i64.wrap ((j:Int)+1)=((j+1:Nat):Int):=w1 om;have hcb:=hxb.2.2 _ (Yj x.cells hcl);have hfl:((x.cells.take j).filter (Vp fs.length)).length≤j:=Nat.le_trans (List.length_filter_le _ _) (by rw[qk];omega);have hcs:(x.cells.take (j+1)).filter (Vp fs.length)=(x.cells.take j).filter (Vp fs.length)++(if Vp fs.length (x.cells.getD j default)then[x.cells.getD j default]else[]):=by rw[List.take_succ_eq_append_getElem hcl,List.filter_append];simp[List.getD,hcl,List.filter_cons]
   obtain⟨c,hc⟩:∃c,c=x.cells.getD j default:=⟨_,rfl⟩;rw[←hc]at hntc hcb hcs;clear hc;have g5:(p=n1)=False:=oz;have g6:(p+1=n1)=False:=oz;have g7:(n=n1)=False:=oz;refine ak ?_;apply hK5;refine ZL [1,2,5,6,7,8] (fun T' H' n'=>∃ver,T'=tl [(1,.sl 2 (l.map Zf)),(2,.loc n 0 0 0 []),(5,.sl 2 (L.map Zf)),(6,.int .i64 i),(7,.loc p 0 0 0 []),(8,.int .i64 j)]∧H' n=some (.arr 0 1 [Zh fs])∧H' p=some (.arr 0 2 [.agg [bys x.row,.osl (p+1) ver 0 ((x.cells.take (j+1)).filter (Vp fs.length)).length]])∧H' (p+1)=some (.arr ver 4 (((x.cells.take (j+1)).filter (Vp fs.length)).map Zj))∧(∀k,k<n→H' k=H k)∧p+2≤n') ?_ ?_
   ·refine Zq ?_;refine Zg zs [1,2,5,6,7,8,9] fun K J=> ?_
    try simp only[go_sem,seval,hszs,hags,hmos,hszr,hagr,hmor,hszc,hagc,hmoc,b1,b2,b3,hnth,hntc,hntl,e1,e2,e3,g1,g2,g3,g4,g5,g6,qg,qb,qd,Zt,Zf]
    repeat (first | (refine And.intro ?_ ?_;· first | exact⟨om,om⟩) | refine peel ?_)
    apply J;clear J K;refine Zg zs [1,2,5,6,7,8,9,57] fun K J=> ?_
    try simp only[go_sem,seval,hszs,hags,hmos,hszr,hagr,hmor,hszc,hagc,hmoc,b1,b2,b3,hnth,hntc,hntl,e1,e2,e3,g1,g2,g3,g4,g5,g6,qg,qb,qd,Zt,Zj,Zh,g7]
    repeat (first | (refine And.intro ?_ ?_;· first | (intros;simp_all;done)) | refine peel ?_)
    apply J;clear J K;refine Zb ?_ ?_<;>intro hb
    ·have hyes:Vp fs.length c=true:=by unfold Vp;have h9:=Vw hb;simpa using h9
     refine U4 rfl zs [1,2,5,6,7,8] [.q,.q,.q,.q,.q,.q,.c,.q,.q,.q,.q,.c,.q,.q,.w [],.q,.w []] [0,1,2,3,4,5,6,7,8,9,10,11,12,13,14,15,16] [0,1,2,3,4,5,6,7,8,9,10,11,12,13,14,15,16] (by kernel_rfl) (fun _ _ _ _ _ h=>h) fun K J=> ?_
     try simp only[go_sem,seval,hszs,hags,hmos,hszr,hagr,hmor,hszc,hagc,hmoc,b1,b2,b3,hnth,hntc,hntl,e1,e2,e3,g1,g2,g3,g4,g5,g6,qg,qb,qd,Zt,Zj,Zf,g7]
     repeat refine peel ?_
     refine ZQ func23 rfl rfl rfl (fun _ n=>(Y9 c.qual hcb.1 _ _)) ?_
     try simp only[go_sem,seval,hszs,hags,hmos,hszr,hagr,hmor,hszc,hagc,hmoc,b1,b2,b3,hnth,hntc,hntl,e1,e2,e3,g1,g2,g3,g4,g5,g6,qg,qb,qd,Zt,Zj,Zf,g7]
     repeat refine peel ?_
     refine ZQ func23 rfl rfl rfl (fun _ n=>(Y9 c.value hcb.2 _ _)) ?_
     try simp only[go_sem,seval,hszs,hags,hmos,hszr,hagr,hmor,hszc,hagc,hmoc,b1,b2,b3,hnth,hntc,hntl,e1,e2,e3,g1,g2,g3,g4,g5,g6,qg,qb,qd,Zt,Zj,Zf,g7]
     repeat (first | (refine And.intro ?_ ?_;· first | exact⟨rfl,by simp[AV.sz,AV.szs,AV.memOK]⟩ | exact⟨Nat.le_refl _,.inr trivial,om,om⟩) | refine peel ?_)
     apply J;clear J K;refine ns ?_;refine ns ?_
     first
     | (rw [hcs, hyes, if_pos rfl]
        rw[List.take_of_length_le (show(((x.cells.take j).filter (Vp fs.length)).map Zj).length≤((x.cells.take j).filter (Vp fs.length)).length by simp)];refine⟨ver+1,?_⟩;(repeat' apply And.intro)<;>first | rfl | (rw[qe];rfl) | ((try simp only[Rl]);(repeat first | rw[if_pos rfl] | rw[if_pos trivial] | rw[if_neg om]);first | done | exact b1 | exact b2 | exact b3 | (rw[qj];rfl) | (rw[qe];rfl)) | (intro k hk;refine ohx ?_;exact hlow k hk) | omega)
    have hno:Vp fs.length c=false:=by unfold Vp;have h9:=hb;revert h9;cases decide (0≤c.fam)<;>cases decide (c.fam<(fs.length:Int))<;>simp_all
    refine ak ?_;refine ns ?_
    first
    | (rw [hcs, hno]
       simp only[Bool.false_eq_true,if_false,List.append_nil];refine⟨ver,?_⟩;(repeat' apply And.intro)<;>first | rfl | ((try simp only[Rl]);(repeat first | rw[if_pos rfl] | rw[if_pos trivial] | rw[if_neg om]);first | done | exact b1 | exact b2 | exact b3) | (intro k hk;refine ohx ?_;exact hlow k hk) | omega)
   rintro T3 H3 n3 ⟨ver3,rfl,b1,b2,b3,hlow,hn3⟩;refine rg1 zs [1,2,5,6,7,8] ?_;refine⟨⟨j+1,ver3,?_⟩,om⟩;(repeat' apply And.intro)<;>first | rfl | omega | exact hlow | exact hn3
  have hcl:j=x.cells.length:=otf;refine ax ?_;apply hK4;refine Za fun K6 hK6=> ?_;subst hcl;rw[List.take_length]at b2 b3;refine Ub (p+1) p (ver:=ver) (e:=4) (els:=(Nr fs.length x).cells.map Zj) (vj:=0) (ej:=2) (lj:=[.agg [bys x.row,.osl (p+1) ver 0 (x.cells.filter (Vp fs.length)).length]]) (lj':=[Zf (Nr fs.length x)]) b3 b2 om ⟨FzV.agg ⟨.refl _,fz_cels _,trivial⟩,trivial⟩ ?_;obtain⟨r,hr⟩:∃r,r=Nr fs.length x:=⟨_,rfl⟩;have hrr:r.row=x.row:=by rw[hr];rfl
  rw[←hr];refine ZG (fun H' n'=>H' n=some (.arr 0 1 [Zh fs])∧H' p=some (.arr 0 2 [Zf r])∧(∀k,k<n→H' k=H k)∧p+2≤n') ⟨ohx b1,oh,fun k hk=>ohx (hlow k hk),hn1⟩ fun H3 n3 ⟨b1,b2,hlow,hn3⟩=> ?_;refine Zg zs [1,2,5,6,7,83] fun K J=> ?_
  try simp only[go_sem,seval,hszs,hags,hmos,hszr,hagr,hmor,hszc,hagc,hmoc,b1,b2,b3,hnth,hntc,hntl,e1,e2,e3,g1,g2,g3,g4,g5,g6,qg,qb,qd,Zt,Zf]
  repeat refine peel ?_
  apply J;clear J K;refine Zb ?_ ?_<;>intro hb
  ·have h9:x.row.length<1∨256<x.row.length:=Classical.byContradiction fun h=>by rw[hrr,decide_eq_false (show¬((x.row.length:Int)<1) by omega),decide_eq_false (show¬((256:Int)<(x.row.length:Int)) by omega)]at hb;exact absurd hb odc
   have hNs1:N (i+1)=L:=by rw[hNs];unfold UR;rw[if_pos h9]
   refine ax ?_;apply hK3;refine rg1 zs [1,2,5,6] ?_;refine⟨⟨i+1,?_⟩,om⟩
   (repeat' apply And.intro)<;>first | omega | rfl | (rw[hNs1];done) | (rw[hNs2];done) | ((try simp only[Rl]);(repeat first | rw[if_pos rfl] | rw[if_pos trivial] | rw[if_neg om]);first | done | exact b1 | exact hlow) | (intro k hk;refine ohx ?_;exact hlow k hk)
  have h9:¬(x.row.length<1∨256<x.row.length):=fun h=>by
    rw[hrr]at hb;rcases h with h | h
    ·rw[decide_eq_true (show(x.row.length:Int)<1 by omega)]at hb;exact absurd hb osi
    ·rw[decide_eq_true (show(256:Int)<(x.row.length:Int) by omega)]at hb;cases h7:decide ((x.row.length:Int)<1)<;>rw[h7]at hb<;>exact absurd hb osi
  have hNs1:N (i+1)=putN L r:=by rw[hNs];unfold UR;rw[if_neg h9,hr]
  refine ak ?_;apply hK6;refine rg zs [1,2,5,6,7,10] ?_;refine ZL [1,2,5,6,7,10] (fun T' H' n'=>T'=tl [(1,.sl 2 (l.map Zf)),(2,.loc n 0 0 0 []),(5,.sl 2 (L.map Zf)),(6,.int .i64 i),(7,.loc p 0 0 0 []),(10,.int .i64 (posN L r.row))]∧H'=H3∧n'=n3) ?_ ?_
  ·refine Zq ?_;refine Zk (fun T' H' n'=>∃a:Nat,a≤L.length∧(∀j,j<a→Lib.compareBytes (L.getD j default).row r.row<0)∧T'=tl [(1,.sl 2 (l.map Zf)),(2,.loc n 0 0 0 []),(5,.sl 2 (L.map Zf)),(6,.int .i64 i),(7,.loc p 0 0 0 []),(10,.int .i64 a)]∧H'=H3∧n'=n3) (fun T' _ _=>L.length-iv (T' 10)) ?_ ?_
   ·exact⟨0,Nat.zero_le _,fun j hj=>om,rfl,rfl,rfl⟩
   rintro T1 H1 n1 ⟨a,ha,hbe,rfl,rfl,rfl⟩;refine Za fun K7 hK7=> ?_;rcases Nat.lt_or_ge a L.length with h14 | h14
   ·have hntl:nth (L.map Zf) a=Zf (L.getD a default):=Zr Zf L a h14;have hd14:decide ((a:Int)<(L.length:Int))=true:=decide_eq_true om;have e3:IntKind.i64.wrap ((a:Int)+1)=((a+1:Nat):Int):=w1 om;refine Y0 rfl zs [1,2,5,6,7,10,99] [.m,.m,.q,.q,.m,.m,.m,.q,.q,.q,.q,.q,.q,.q,.q,.q] [0,1,2,3,4,5,6,7,8,9,10,11,12,13,14,15] [0,1,2,3,4,5,6,7,8,9,10,11,12,13,14,15] (by kernel_rfl) (fun _ _ _ _ _ h=>h) fun K J=> ?_
    try simp only[go_sem,seval,hszs,hags,hmos,hszr,hagr,hmor,hszc,hagc,hmoc,b1,b2,b3,hnth,hntc,hntl,e1,e2,e3,g1,g2,g3,g4,g5,g6,qg,qb,qd,Zt,Zf,hntl,hd14]
    repeat (first | (refine And.intro ?_ ?_;· first | (intro _;exact Yg _) | (intros;simp_all;done)) | refine peel ?_)
    apply J;clear J K;refine Zb ?_ ?_<;>intro hb
    ·have hac:Lib.compareBytes (L.getD a default).row r.row<0:=by have h8:=hb;simp only[hlt]at h8;simpa using h8
     refine ak ?_;apply hK7;refine Zq ?_;refine rg1 zs [1,2,5,6,7,10] ?_;exact⟨⟨a+1,om,fun j hj=>by rcases Nat.lt_or_ge j a with h7 | h7;exact hbe j h7;(obtain rfl:j=a:=om);exact hac,rfl⟩,om⟩
    have hpos:posN L r.row=a:=posN_is ha hbe (.inr (by have h8:=hb;simp only[hlt]at h8;simpa using h8));refine ax ?_;refine ns ?_;rw[hpos]
   ·have hntl:nth (L.map Zf) a= .junk:=by simp[nth,List.getD,h14]
    have hd14:decide ((a:Int)<(L.length:Int))=false:=decide_eq_false om;have e3:IntKind.i64.wrap ((a:Int)+1)=((a+1:Nat):Int):=w1 om;refine Y0 rfl zs [1,2,5,6,7,10,99] [.m,.m,.q,.q,.m,.m,.m,.q,.q,.q,.q,.q,.q,.q,.q,.q] [0,1,2,3,4,5,6,7,8,9,10,11,12,13,14,15] [0,1,2,3,4,5,6,7,8,9,10,11,12,13,14,15] (by kernel_rfl) (fun _ _ _ _ _ h=>h) fun K J=> ?_
    try simp only[go_sem,seval,hszs,hags,hmos,hszr,hagr,hmor,hszc,hagc,hmoc,b1,b2,b3,hnth,hntc,hntl,e1,e2,e3,g1,g2,g3,g4,g5,g6,qg,qb,qd,Zt,Zf,hntl,hd14]
    repeat (first | (refine And.intro ?_ ?_;· first | (intro _;exact Yg _) | (intros;simp_all;done)) | refine peel ?_)
    apply J;clear J K;refine Zb ?_ ?_<;>intro hb
    ·exact absurd hb osi
    have hpos:posN L r.row=a:=posN_is ha hbe (.inl om);refine ax ?_;refine ns ?_;rw[hpos]
  rintro T8 H8 n8 ⟨rfl,rfl,rfl⟩;obtain⟨P,hP⟩:∃P,P=posN L r.row:=⟨_,rfl⟩;have hPl:P≤L.length:=by rw[hP];exact(List.takeWhile_sublist _).length_le
  rw[←hP];refine ZL [1,2,5,6,7,10] (fun T' H' n'=>N (i+1)=L.take P++[r]++L.drop P∧T'=tl [(1,.sl 2 (l.map Zf)),(2,.loc n 0 0 0 []),(5,.sl 2 (L.map Zf)),(6,.int .i64 i),(7,.loc p 0 0 0 []),(10,.int .i64 P)]∧H'=H8∧n'=n8) ?_ ?_
  ·rcases Nat.lt_or_ge P L.length with h16 | h16
   ·have hntl:nth (L.map Zf) P=Zf (L.getD P default):=Zr Zf L P h16;have hd16:decide ((P:Int)<(L.length:Int))=true:=decide_eq_true om;refine Y0 rfl zs [1,2,5,6,7,10,115] [.m,.m,.q,.q,.m,.m,.m,.q,.q,.q,.q,.q,.c,.q] [0,1,2,3,4,5,6,7,8,9,10,11,12,13] [0,1,2,3,4,5,6,7,8,9,10,11,12,13] (by kernel_rfl) (fun _ _ _ _ _ h=>h) fun K J=> ?_
    try simp only[go_sem,seval,hszs,hags,hmos,hszr,hagr,hmor,hszc,hagc,hmoc,b1,b2,b3,hnth,hntc,hntl,e1,e2,e3,g1,g2,g3,g4,g5,g6,qg,qb,qd,Zt,Zf,hntl,hd16]
    repeat refine peel ?_
    refine ZQ func26 rfl rfl rfl (fun _ n=>(Qx (L.getD P default).row r.row _ _)) ?_
    try simp only[go_sem,seval,hszs,hags,hmos,hszr,hagr,hmor,hszc,hagc,hmoc,b1,b2,b3,hnth,hntc,hntl,e1,e2,e3,g1,g2,g3,g4,g5,g6,qg,qb,qd,Zt,Zf,hntl,hd16]
    repeat refine peel ?_
    apply J;clear J K;refine Zb ?_ ?_<;>intro hb
    ·have hNs2:N (i+1)=L:=by rw[hNs1];unfold putN;rw[←hP,if_pos ⟨h16,osb⟩]
     refine ax ?_;apply hK3;refine rg1 zs [1,2,5,6] ?_;refine⟨⟨i+1,?_⟩,om⟩
     (repeat' apply And.intro)<;>first | omega | rfl | (rw[hNs1];done) | (rw[hNs2];done) | ((try simp only[Rl]);(repeat first | rw[if_pos rfl] | rw[if_pos trivial] | rw[if_neg om]);first | done | exact b1 | exact hlow) | (intro k hk;refine ohx ?_;exact hlow k hk)
    have hNs2:N (i+1)=L.take P++[r]++L.drop P:=by rw[hNs1];unfold putN;rw[←hP,if_neg (fun h=>by have h8:=hb;rw[h.2]at h8;simp at h8)]
    refine ak ?_;refine ns ?_;exact hNs2
   ·have hntl:nth (L.map Zf) P= .junk:=by simp[nth,List.getD,h16]
    have hd16:decide ((P:Int)<(L.length:Int))=false:=decide_eq_false om;refine Y0 rfl zs [1,2,5,6,7,10,115] [.m,.m,.q,.q,.m,.m,.m,.q,.q,.q,.q,.q,.c,.q] [0,1,2,3,4,5,6,7,8,9,10,11,12,13] [0,1,2,3,4,5,6,7,8,9,10,11,12,13] (by kernel_rfl) (fun _ _ _ _ _ h=>h) fun K J=> ?_
    try simp only[go_sem,seval,hszs,hags,hmos,hszr,hagr,hmor,hszc,hagc,hmoc,b1,b2,b3,hnth,hntc,hntl,e1,e2,e3,g1,g2,g3,g4,g5,g6,qg,qb,qd,Zt,Zf,hntl,hd16]
    repeat refine peel ?_
    refine ZQ (r:= .bool false) func26 rfl rfl rfl (fun hg=>absurd hg osi) ?_
    try simp only[go_sem,seval,hszs,hags,hmos,hszr,hagr,hmor,hszc,hagc,hmoc,b1,b2,b3,hnth,hntc,hntl,e1,e2,e3,g1,g2,g3,g4,g5,g6,qg,qb,qd,Zt,Zf,hntl,hd16]
    repeat refine peel ?_
    apply J;clear J K;refine Zb ?_ ?_<;>intro hb
    ·exact absurd hb osi
    have hNs2:N (i+1)=L.take P++[r]++L.drop P:=by rw[hNs1];unfold putN;rw[←hP,if_neg (fun h=>om)]
    refine ak ?_;refine ns ?_;exact hNs2
  rintro T8 H8 n8 ⟨hNs2,rfl,rfl,rfl⟩;refine rg zs [1,2,5,6,7,10,11] ?_;have g5:(p=n8)=False:=oz;have hst:strip true (Zf r)=Zf r:=rfl;have e2:min P L.length=P:=Nat.min_eq_left hPl;refine ZN 11 2 rfl ?_;refine ns ?_;refine Zg zs [1,2,5,6,7,10,11] fun K J=> ?_
  try simp only[go_sem,seval,hszs,hags,hmos,hszr,hagr,hmor,hszc,hagc,hmoc,b1,b2,b3,hnth,hntc,hntl,e1,e2,e3,g1,g2,g3,g4,g5,g6,qg,qb,qd,Zt,Option.getD_some,Option.getD_none,Int.toNat_zero,List.drop_zero,←List.map_take,←List.map_drop,qk,List.length_drop]
  repeat (first | (refine And.intro ?_ ?_;· first | exact⟨.inr trivial,om,om⟩) | refine peel ?_)
  apply J;clear J K;refine Zg zs [1,2,5,6,10,11] fun K J=> ?_
  try simp only[go_sem,seval,hszs,hags,hmos,hszr,hagr,hmor,hszc,hagc,hmoc,b1,b2,b3,hnth,hntc,hntl,e1,e2,e3,g1,g2,g3,g4,g5,g6,qg,qb,qd,Zt,hst,List.take_take,Option.getD_some,Option.getD_none,Int.toNat_zero,List.drop_zero,←List.map_take,←List.map_drop,qk,List.length_drop]
  repeat (first | (refine And.intro ?_ ?_;· first | exact⟨Nat.le_refl _,.inr trivial,om,om⟩ | exact⟨rfl,fun x hx=>by rw[List.mem_singleton.1 hx];exact⟨hszr r,hmor r⟩⟩) | refine peel ?_)
  apply J;clear J K;refine ZP zs [1,2,5,6] fun K J=> ?_
  try simp only[go_sem,seval,hszs,hags,hmos,hszr,hagr,hmor,hszc,hagc,hmoc,b1,b2,b3,hnth,hntc,hntl,e1,e2,e3,g1,g2,g3,g4,g5,g6,qg,qb,qd,Zt,hst,List.take_take,Option.getD_some,Option.getD_none,Int.toNat_zero,List.drop_zero,←List.map_take,←List.map_drop,qk,List.length_drop]
  repeat (first | (refine And.intro ?_ ?_;· first | exact⟨by(simp only[qe,qb,qk,qi,List.length_nil];omega),.inr trivial,om,om⟩) | refine peel ?_)
  apply J;clear J K;refine ns ?_;apply hK3
  first
  | (have hE : List.take (P + 1) (List.map Zf (List.take (min P P) L) ++ [Zf r]) ++ List.map Zf (List.drop P (List.take L.length L)) = (N (i + 1)).map Zf := by rw [hNs2, Nat.min_self, List.take_length, List.take_of_length_le (by simp only [qe, qb, qk, qi, List.length_nil]; omega), qj, qj]; rfl
     have hLn:P+(1+(min L.length L.length-P))=(N (i+1)).length:=by rw[hNs2];simp only[qe,qk,List.length_drop,qi,List.length_nil];omega
     rw[hE,hLn];refine Ua 5 n8 (Rm _ _ _) (fz_rows (N (i+1))) ?_;refine Yl [1,2,5,6] ?_;refine ns ?_)
  refine rg1 zs [1,2,5,6] ?_;refine⟨⟨i+1,?_⟩,om⟩
  (repeat' apply And.intro)<;>first | omega | rfl | (rw[hNs1];done) | (rw[hNs2];done) | ((try simp only[Rl]);(repeat first | rw[if_pos rfl] | rw[if_pos trivial] | rw[if_neg om]);first | done | exact b1 | exact hlow) | (intro k hk;refine ohx ?_;exact hlow k hk)
 have hci:N i=UX fs.length l:=by
   rw[hN];unfold UX;have h9:i=l.length∨i=40:=by
     rcases Nat.lt_or_ge i l.length with h7 | h7
     ·rcases Nat.lt_or_ge i 40 with h8 | h8
      ·rw[decide_eq_true (show(i:Int)<(l.length:Int) by omega),decide_eq_true (show(i:Int)<40 by omega)]at hb;exact absurd hb odc
      ·exact .inr om
     ·exact .inl om
   show KS _ (l.take i)=KS _ (l.take 40);rcases h9 with h9 | h9
   ·rw[List.take_of_length_le om,List.take_of_length_le om]
   ·rw[h9]
 refine ax ?_;apply hK1;refine rg zs [4] ?_;refine ar ?_;rw[hci];exact⟨_,rfl,hlow,.kl (Xq Zf (fun r=>kl_row r _) _)⟩
theorem NVa0.eqs{P Q:Prop}(g:Imp P Q:=by(try simp only[go_sem,seval,hszq,hagq,hmoq,hszr,hagr,hmor,b1,hnth,e1,qg,qb,qd]);exact Imp.rf):Imp P Q:=g
theorem NVa0.inz{P Q:Prop}(g:Imp P Q:=by refine Imp.up eqs ?_;(repeat (first | (refine Imp.nd ?_ ?_;· first | exact⟨rfl,fun y hy=>by rw[List.mem_singleton.1 hy];exact⟨hszr x,hmor x⟩⟩ | exact⟨Nat.le_refl _,.inr trivial,by omega,by omega⟩) | refine Imp.pl ?_));exact Imp.rf):Imp P Q:=g
end Go.Proofs.YtkmkbndcekklmaaGreatDoor