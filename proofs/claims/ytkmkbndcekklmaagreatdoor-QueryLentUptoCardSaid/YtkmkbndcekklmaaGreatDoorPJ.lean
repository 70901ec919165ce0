/- Own layer: walks through a token's reading and through the check of a question. Of the program; no condition. -/
import Derived.Test.YtkmkbndcekklmaaGreatDoorPI
import Derived.Test.YtkmkbndcekklmaaGreatDoorPF
import Derived.Test.YtkmkbndcekklmaaGreatDoorPG
import Derived.Test.YtkmkbndcekklmaaGreatDoorPD
import Derived.Test.YtkmkbndcekklmaaGreatDoorPE
set_option linter.unusedSimpArgs false
set_option linter.unusedVariables false
set_option maxRecDepth 10000
namespace Go.Proofs.YtkmkbndcekklmaaGreatDoor
open Go Go.Sx Go.Rt Go.Proofs Tryz
def Zz(q:QryE):Int×List UInt8×Int:=
 if q.token.length=0 then(0,[],0)
 else if (rfQ q.token).2.2≠0 then(0,[],132)
 else if (ruB (rfQ q.token).1 0).2.2≠0∨(ruB (rfQ q.token).1 0).1<1∨1099511627776<(ruB (rfQ q.token).1 0).1∨(q.time≠0∧(ruB (rfQ q.token).1 0).1≠u64 q.time)then(0,[],132)
 else if (rbB (rfQ q.token).1 (ruB (rfQ q.token).1 0).2.1 256).2.2≠0∨(rbB (rfQ q.token).1 (ruB (rfQ q.token).1 0).2.1 256).1.length=0∨YX q (rbB (rfQ q.token).1 (ruB (rfQ q.token).1 0).2.1 256).1=false∨(tokB q (ruB (rfQ q.token).1 0).1 (rbB (rfQ q.token).1 (ruB (rfQ q.token).1 0).2.1 256).1==q.token)=false then(0,[],132)
 else(((ruB (rfQ q.token).1 0).1:Int),(rbB (rfQ q.token).1 (ruB (rfQ q.token).1 0).2.1 256).1,0)
theorem NM(b:List UInt8)(p most:Nat):(rbB b p most).1.length≤most:=by
 unfold rbB
 repeat' split
 all_goals first | simp | skip
 omega
theorem rfQ_len(b:List UInt8):(rfQ b).1.length≤b.length:=by
 unfold rfQ rfN
 repeat' split
 all_goals first | simp | skip
 exact Nat.le_trans (Nat.min_le_right _ _) (Nat.sub_le _ _)
theorem kl_nums(l:List Int)(n:Nat):(Zx l).kl n:=Xq (fun x:Int=> .int .i64 x) (fun _=>trivial) _
theorem kl_qry(q:QryE)(n:Nat):(Ze q).kl n:=⟨Xg _ _,Xg _ _,kl_nums _ _,Xg _ _,trivial,trivial,trivial,trivial,trivial,Xg _ _,trivial⟩
theorem c_tok_lent(q:QryE)(hq:q.fine)(time:Int)(row:List UInt8)(hr:row.length≤256){H:Heap}(ha:(1:Nat)≠1→H 1=some (.glob 5 LZ))(hb:H 1=some (.glob 1 Ux)){a qa:AV}(hf:Frz H 0 a (bys row))(hqf:Frz H 0 qa (Ze q))(n:Nat):Ret prog 56 [.agg [.int .i64 time,a],qa] H n (bys (tokB q time row)) H n:=
 Ret.below hb fun g2=>by
   have key:GOK 1 1 H n→Ret prog 56 [.agg [.int .i64 time,a],qa] H n (bys (tokB q time row)) H n:=fun hG=>
     OAns.fin (OAns.lend (VW hG) (.cons (.agg (.cons (.kl trivial) (.cons hf .nil))) (.cons hqf .nil)) (Vy q hq time row hr (Kk hG.gek hG.get)))
   by_cases hne:(1:Nat)=1
   ·exact key ⟨ha,hb,om,g2⟩
   ·exact Ret.below (ha hne) fun g1=>key ⟨ha,hb,g1,g2⟩
theorem NQl0.eqs{P Q:Prop}(g:Imp P Q:=by(try simp only[go_sem,seval,hsz,hag,hmo,f1,f2,f3,f4,f5,f6,hs,g1,g2,l1,l2,hql,hs1,hs2,hs3,ruAV,rbAV,Ze,Zx,bys,qb,Ya,hx]);exact Imp.rf):Imp P Q:=g
set_option maxHeartbeats 3200000 in
open NQl0 NY in
theorem KN(q:QryE)(hq:q.fine){H:Heap}{n:Nat}(hG:GOK 1 1 H n):Zn prog 59 [Ze q] H n (OAns H n (.tup [.agg [.int .i64 (Zz q).1,bys (Zz q).2.1],.int .i64 (Zz q).2.2])):=by
 have hsz:(Ze q).sz=10:=ZT q;have hag:(Ze q).isAgg=true:=rfl;have hmo:(Ze q).memOK=true:=rfl;obtain⟨z,hz⟩:∃z,z=Zz q:=⟨_,rfl⟩;rw[←hz];unfold Zz at hz;have hfl:=rfQ_len q.token;have htl:=hq.token;obtain⟨fr,hfr⟩:∃f,f=rfQ q.token:=⟨_,rfl⟩;rw[←hfr]at hz hfl;obtain⟨hu1,hu2,hu3⟩:=ruB_lt fr.1 0;obtain⟨u,hu⟩:∃u,u=ruB fr.1 0:=⟨_,rfl⟩;rw[←hu]at hz hu1 hu2 hu3;have hbm:=NM fr.1 u.2.1 256;obtain⟨rb,hrb⟩:∃b,b=rbB fr.1 u.2.1 256:=⟨_,rfl⟩;rw[←hrb]at hz hbm;have hx:=hsz;have hgk:=hG.gek;have hgt:=hG.get;have f1:(n=n+1)=False:=osi;have f2:(n+1=n)=False:=osi;have f3:(n=n+2)=False:=osi;have f4:(n+1=n+2)=False:=osi;have f5:(n+2=n)=False:=osi;have f6:(n+2=n+1)=False:=osi;have hs:=hsz;have g1:=hsz;have g2:=hsz;have l1:=hsz;have l2:=hsz;have hql:=hsz;have hs1:=hsz;have hs2:=hsz;have hs3:=hsz;refine fw func59 ntmps59 results59 ?_;refine rg zs [1,2] ?_;refine Za fun K1 hK1=> ?_;refine rg zs [1,2,15] ?_;refine Zb ?_ ?_<;>intro hb
 ·have h0:q.token.length=0:=by have h9:=hb;simp at h9;simp[h9]
  rw[if_pos h0]at hz;exact kbc
 have h0:¬q.token.length=0:=by have h9:=hb;simp at h9;simp[h9]
 rw[if_neg h0]at hz;refine kay ?_;refine rk zs [1,2,4,6] fun K V=> ?_;refine ck func92 ((hfr▸Mh q.token om (hG.on (fun k hk=>oh) om))) ?_;refine kas ?_;refine Za fun K2 hK2=> ?_;refine rg zs [1,2,4,25] ?_;refine Zb ?_ ?_<;>intro hb
 ·rw[if_pos osb]at hz;exact kbc
 rw[if_neg osb]at hz;refine kaQ ?_;refine rk zs [1,2,4,6,7,8] fun K V=> ?_;refine ck func93 ((hu▸QH fr.1 0 om om _ _)) ?_;refine kas ?_;refine Za fun K3 hK3=> ?_;refine rg zs [1,2,4,7,8,54] ?_;refine Zb ?_ ?_<;>intro hb
 ·have hc:u.2.2≠0∨u.1<1∨1099511627776<u.1∨(q.time≠0∧u.1≠u64 q.time):=by grind
  rw[if_pos hc]at hz;exact kbc
 have hc:¬(u.2.2≠0∨u.1<1∨1099511627776<u.1∨(q.time≠0∧u.1≠u64 q.time)):=by grind
 rw[if_neg hc]at hz;have hx:IntKind.i64.wrap (u.1:Int)=(u.1:Int):=w64 om om;refine kba ?_;refine rk zs [1,2,6,7,9] fun K V=> ?_;refine cK func94 (hrb▸LV fr.1 u.2.1 256 om om om _ _) ?_ ?_
 ·intro p H' n' hc;exact hc.pan.elim
 intro rr H2 n2 hc;obtain⟨ks,hM⟩:=hc.got;obtain⟨a,rfl,ho⟩:=hM.own.tupII_shape;have hs:=fun g=>ho.strip g;have hn2:=hM.nn;have g1:(n=n2)=False:=oz;have g2:(n+1=n2)=False:=oz;have l1:=hM.low n om;have l2:=hM.low (n+1) om;have hql:=ho.qLen prog 22;rw[qb]at hql;have hak:∀(Hc:Heap),(∀k,k<n2→Hc k=H2 k)→∀m,Ret prog 95 [Ze q,a] Hc m (.bool (YX q rb.1)) Hc m:=fun Hc hc m=>Ret.lend trivial (.cons (.kl (kl_qry q 0)) (.cons (ho.lnt.on fun k hk=>hc k (by have:=hM.lo k hk;omega)).frz .nil)) (c_query_asks q rb.1 _ _);have hfz:∀(Hc:Heap),(∀k,k<n2→Hc k=H2 k)→Frz Hc 0 a (bys rb.1):=fun Hc hc=>(ho.lnt.on fun k hk=>hc k (by have:=hM.lo k hk;omega)).frz;obtain⟨hs1,hs2,hs3⟩:=ho.sl_sz;refine nz ?_;refine kas ?_;refine rg zs [1,2,6,9,11] ?_;refine Za fun K4 hK4=> ?_;refine dx zs [2,11,88] [.m,.q,.m,.m,.q,.q,.q,.m,.q,.m,.c,.q,.q,.m,.q,.q,.c,.q,.q,.c,.q,.q] [0,1,2,3,4,5,6,7,8,9,10,11,12,13,14,15,16,17,18,19,20,21] [0,1,2,3,4,5,6,7,8,9,10,11,12,13,14,15,16,17,18,19,20,21] fun K V=> ?_;refine cq func95 (fun _ n=>(hak _ (fun k hk=>oh) n)) ?_;refine cq func56 (fun _ n=>(c_tok_lent q hq u.1 rb.1 hbm (fun hne=>by refine ohx ?_;rw[hM.low _ om];refine ohx ?_;exact hG.kindsC hne) (by refine ohx ?_;rw[hM.low _ om];refine ohx ?_;exact hG.table) (hfz _ (fun k hk=>oh)) (.kl (kl_qry q 0)) n)) ?_;refine cq func96 (fun _ n=>(UI (tokB q u.1 rb.1) q.token _ _)) ?_;refine kas ?_;refine Zb ?_ ?_<;>intro hb
 ·have hc2:rb.2.2≠0∨rb.1.length=0∨YX q rb.1=false∨(tokB q u.1 rb.1==q.token)=false:=by grind
  rw[if_pos hc2]at hz;refine rg zs [2,3] ?_;refine ar ?_;rw[hz];exact OAns.emp (RS (Sm .nilsl)) (fun k hk=>by refine ohx ?_;rw[hM.low k om];exact oh) om
 have hc2:¬(rb.2.2≠0∨rb.1.length=0∨YX q rb.1=false∨(tokB q u.1 rb.1==q.token)=false):=by grind
 rw[if_neg hc2]at hz;refine kb3 ?_;refine rg zs [2,3] ?_;refine ar ?_;rw[hz];exact⟨_,ks,rfl,RS (Sm (ho.frame fun k hk=>by(try simp only[Rl]);(repeat rw[if_neg (by have:=hM.lo k hk;omega)]))),hM.nd,fun k hk=>by have:=hM.lo k hk;omega,fun k hk=>by refine ohx ?_;rw[hM.low k om];(try simp only[Rl]);(repeat first | rw[if_pos rfl] | rw[if_pos trivial] | rw[if_neg om]),om⟩
theorem Qw(q:QryE)(hq:q.fine){H:Heap}{n:Nat}(hG:GOK 1 1 H n):Ret prog 59 [Ze q] H n (.tup [.agg [.int .i64 (Zz q).1,bys (Zz q).2.1],.int .i64 (Zz q).2.2]) H n:=OAns.fin (KN q hq hG)
def qcE(fs:List Fml)(q:QryE):Int:=
 if Zy fs≠0 then Zy fs
 else if Yy fs.length q=false then 130
 else if 0<q.whr.length∧(Xc fs q.whr).2.1≠0 then(Xc fs q.whr).2.1
 else(Zz q).2.2
theorem NQl1.eqs{P Q:Prop}(g:Imp P Q:=by(try simp only[go_sem,seval,hsz,hag,hmo,hszs,hags,hmos,f1,f2,Zh,Ze,Zx,bys,qb]);exact Imp.rf):Imp P Q:=g
set_option maxHeartbeats 1600000 in
open NQl1 NY in
theorem c_query_Check(fs:List Fml)(hfs:fs.length≤1048576)(q:QryE)(hq:q.fine){H:Heap}{n:Nat}(hG:GOK 1 1 H n):Ret prog 34 [Zh fs,Ze q] H n (.int .i64 (qcE fs q)) H n:=by
 have hsz:(Ze q).sz=10:=ZT q;have hag:(Ze q).isAgg=true:=rfl;have hmo:(Ze q).memOK=true:=rfl;have hszs:(Zh fs).sz=1:=rfl;have hags:(Zh fs).isAgg=true:=rfl;have hmos:(Zh fs).memOK=true:=rfl;obtain⟨z,hz⟩:∃z,z=qcE fs q:=⟨_,rfl⟩;rw[←hz];unfold qcE at hz;have f1:(n=n+1)=False:=osi;have f2:(n+1=n)=False:=osi;refine Ret.fin ?_;refine fw func34 ntmps34 results34 ?_;refine rg zs [2,3] ?_;refine Za fun K1 hK1=> ?_;refine rc zs [2,3,5] func66 ((V8 fs _ _)) ?_;refine rg zs [2,3,5,14] ?_;refine Zb ?_ ?_<;>intro hb
 ·rw[if_pos osb]at hz;refine kag ?_;exact kbq
 rw[if_neg osb]at hz;refine kay ?_;refine Za fun K2 hK2=> ?_;refine rc zs [2,3,19] func67 ((c_query_fits fs hfs q hq.fams _ _)) ?_;refine Zb ?_ ?_<;>intro hb
 ·rw[if_pos osb]at hz;refine kag ?_;exact kbq
 rw[if_neg osb]at hz;refine kaQ ?_;refine Za fun K3 hK3=> ?_;refine rg zs [2,3,23] ?_;refine Zb ?_ ?_<;>intro hb
 ·have hw0:0<q.whr.length:=ott;refine rc zs [3,7] func39 ((Ko fs hfs q.whr _ _)) ?_;refine rg zs [3,7,33] ?_;refine Zb ?_ ?_<;>intro hb
  ·rw[if_pos ⟨hw0,osb⟩]at hz;refine kag ?_;exact kbq
  rw[if_neg (fun h=>h.2 osb)]at hz;refine kba ?_;refine rk zs [10] fun K V=> ?_;refine ck func59 ((Qw q hq (hG.on (fun k hk=>oh) om))) ?_;refine kas ?_;refine kag ?_;exact kbq
 rw[if_neg (fun h=>otf)]at hz;refine kba ?_;refine rk zs [10] fun K V=> ?_;refine ck func59 ((Qw q hq (hG.on (fun k hk=>oh) om))) ?_;refine kas ?_;refine kag ?_;exact kbq
def bitS(x:Nat×Nat):Nat×Nat:=(if x.1%2≠x.2%2 then x.1/2 ^^^ 2197175160 else x.1/2,x.2/2)
def mS(m l e:Nat):Nat:=m/2 ^^^ (if (l+m)%2≠e%2 then 2197175160 else 0)
def nibM(l e:Nat):Nat:=mS (mS (mS (mS 0 l e) (l/2) (e/2)) (l/4) (e/4)) (l/8) (e/8)
theorem xor_par(x y:Nat):(x ^^^ y)%2=(x+y)%2:=by
 have h:=Nat.xor_mod_two_pow (a:=x) (b:=y) (n:=1);rw[Nat.pow_one]at h;rw[h,Nat.add_mod];rcases Nat.mod_two_eq_zero_or_one x with hx | hx<;>rcases Nat.mod_two_eq_zero_or_one y with hy | hy<;>rw[hx,hy]<;>rfl
theorem bit1(R m c:Nat):bitS (R ^^^ m,c)=(R/2 ^^^ mS m R c,c/2):=by
 unfold bitS mS;simp only[xor_par,Nat.xor_div_two];split
 ·rw[Nat.xor_assoc]
 ·rw[Nat.xor_zero]
theorem mS_par{m l l' e e':Nat}(h:l%2=l'%2)(h2:e%2=e'%2):mS m l e=mS m l' e':=by
 unfold mS;rw[Nat.add_mod,h,←Nat.add_mod,h2]
theorem nib(r c:Nat):bitS (bitS (bitS (bitS (r,c))))=(r/16 ^^^ nibM (r%16) (c%16),c/16):=by
 have e0:(r,c)=(r ^^^ 0,c):=by rw[Nat.xor_zero]
 rw[e0,bit1,bit1,bit1,bit1];simp only[Nat.div_div_eq_div_mul];unfold nibM;rw[mS_par (m:=0) (l:=r) (l':=r%16) (e:=c) (e':=c%16) om om,mS_par (l:=r/2) (l':=r%16/2) (e:=c/2) (e':=c%16/2) om om,
   mS_par (l:=r/(2*2)) (l':=r%16/4) (e:=c/(2*2)) (e':=c%16/4) om om,mS_par (l:=r/(2*2*2)) (l':=r%16/8) (e:=c/(2*2*2)) (e':=c%16/8) om om]
theorem KR:∀l e:Fin 16,((nibM l.1 e.1:Nat):Int)=tabQ ((l.1 ^^^ e.1:Nat):Int)∧nibM l.1 e.1<4294967296:=by decide +kernel
theorem xor32{a b:Nat}(ha:a<4294967296)(hb:b<4294967296):intBits .xor .u32 (a:Int) (b:Int)=((a ^^^ b:Nat):Int):=by
 have h3:a ^^^ b<4294967296:=Nat.xor_lt_two_pow (n:=32) ha hb;show IntKind.u32.wrap (((BitVec.ofInt 32 (a:Int)) ^^^ (BitVec.ofInt 32 (b:Int))).toNat:Int)=_;rw[BitVec.ofInt_natCast,BitVec.ofInt_natCast,BitVec.toNat_xor,BitVec.toNat_ofNat,BitVec.toNat_ofNat,Nat.mod_eq_of_lt ha,Nat.mod_eq_of_lt hb,IntKind.wrap_u32];omega
theorem low4(r c:Nat):intBits .and .u8 (intBits .xor .u8 (IntKind.u8.wrap (r:Int)) (c:Int)) 15=(((r%16) ^^^ (c%16):Nat):Int):=by
 have h1:intBits .xor .u8 (IntKind.u8.wrap (r:Int)) (c:Int)=(((r%256) ^^^ (c%256):Nat):Int):=by
   have h3:(r%256) ^^^ (c%256)<256:=Nat.xor_lt_two_pow (n:=8) (Nat.mod_lt _ odc) (Nat.mod_lt _ odc);show IntKind.u8.wrap (((BitVec.ofInt 8 (IntKind.u8.wrap (r:Int))) ^^^ (BitVec.ofInt 8 (c:Int))).toNat:Int)=_;rw[show IntKind.u8.wrap (r:Int)=((r%256:Nat):Int) by rw[IntKind.wrap_u8];omega,BitVec.ofInt_natCast,BitVec.ofInt_natCast,BitVec.toNat_xor,BitVec.toNat_ofNat,BitVec.toNat_ofNat,IntKind.wrap_u8];rw[show r%256%2^8=r%256 by omega,show c%2^8=c%256 by omega];omega
 rw[h1];show IntKind.u8.wrap (((BitVec.ofInt 8 (((r%256) ^^^ (c%256):Nat):Int)) &&& (BitVec.ofInt 8 15)).toNat:Int)=_;have h3:(r%256) ^^^ (c%256)<256:=Nat.xor_lt_two_pow (n:=8) (Nat.mod_lt _ odc) (Nat.mod_lt _ odc);rw[BitVec.ofInt_natCast,show BitVec.ofInt 8 15=15#8 by decide,BitVec.toNat_and,BitVec.toNat_ofNat,Nat.mod_eq_of_lt h3];have h4:(r%256 ^^^ c%256) &&& (15#8).toNat=(r%16) ^^^ (c%16):=by
   rw[show(15#8).toNat=2^4-1 by decide,Nat.and_two_pow_sub_one_eq_mod,Nat.xor_mod_two_pow];rw[show r%256%2^4=r%16 by omega,show c%256%2^4=c%16 by omega]
 rw[h4,IntKind.wrap_u8];have h5:(r%16) ^^^ (c%16)<16:=Nat.xor_lt_two_pow (n:=4) (Nat.mod_lt _ odc) (Nat.mod_lt _ odc);omega
def bit8(r c:Nat):Nat:=(bitS (bitS (bitS (bitS (bitS (bitS (bitS (bitS (r,c))))))))).1
theorem sumS_bit{r:Nat}(hr:r<4294967296)(b:UInt8):sumS (r:Int) b=((bit8 r b.toNat:Nat):Int)∧bit8 r b.toNat<4294967296:=by
 have hbl:=b.toNat_lt;have n1:=KR ⟨r%16,Nat.mod_lt _ odc⟩ ⟨b.toNat%16,Nat.mod_lt _ odc⟩;simp only at n1;obtain⟨r1,hr1⟩:∃x,x=r/16 ^^^ nibM (r%16) (b.toNat%16):=⟨_,rfl⟩;have hr1l:r1<4294967296:=by rw[hr1];exact Nat.xor_lt_two_pow (n:=32) om n1.2
 have n2:=KR ⟨r1%16,Nat.mod_lt _ odc⟩ ⟨b.toNat/16%16,Nat.mod_lt _ odc⟩;simp only at n2;have e8:bit8 r b.toNat=r1/16 ^^^ nibM (r1%16) (b.toNat/16%16):=by
   unfold bit8;rw[show bitS (bitS (bitS (bitS (r,b.toNat))))=(r1,b.toNat/16) by rw[nib,←hr1],nib]
 have f1:(r:Int).fdiv (2^min 4 32)=((r/16:Nat):Int):=by rw[show(2:Int)^min 4 32=16 by decide,Int.fdiv_eq_ediv_of_nonneg _ odc];omega
 have f2:(r1:Int).fdiv (2^min 4 32)=((r1/16:Nat):Int):=by rw[show(2:Int)^min 4 32=16 by decide,Int.fdiv_eq_ediv_of_nonneg _ odc];omega
 have f3:(b.toNat:Int).fdiv (2^min 4 8)=((b.toNat/16:Nat):Int):=by rw[show(2:Int)^min 4 8=16 by decide,Int.fdiv_eq_ediv_of_nonneg _ odc];omega
 refine⟨?_,by rw[e8];exact Nat.xor_lt_two_pow (n:=32) om n2.2⟩;unfold sumS;simp only[low4,f1,←n1.1];rw[xor32 om n1.2,←hr1];simp only[low4,f2,f3,←n2.1];rw[xor32 om n2.2,e8]
def bitN:Nat→Nat×Nat→Nat×Nat
 | 0,x=>x
 | k+1,x=>bitN k (bitS x)
theorem bitS_lt{x:Nat×Nat}(h1:x.1<4294967296)(h2:x.2<256):(bitS x).1<4294967296∧(bitS x).2<256:=by
 unfold bitS;refine⟨?_,by simp only;omega⟩;simp only;split
 ·exact Nat.xor_lt_two_pow (n:=32) om odc
 ·omega
theorem xor_ones{r:Nat}(h:r<4294967296):4294967295 ^^^ r=4294967295-r:=by
 have h1:(BitVec.allOnes 32 ^^^ BitVec.ofNat 32 r).toNat=(~~~ (BitVec.ofNat 32 r)).toNat:=by rw[BitVec.allOnes_xor]
 rw[BitVec.toNat_xor,BitVec.toNat_not,BitVec.toNat_ofNat,Nat.mod_eq_of_lt h,show(BitVec.allOnes 32).toNat=4294967295 by decide]at h1;omega
theorem NHh0.eqs{P Q:Prop}(g:Imp P Q:=by(try simp only[go_sem,seval,qb]);exact Imp.rf):Imp P Q:=g
set_option maxHeartbeats 1600000 in
open NHh0 NY in
theorem PU(parts:List (List UInt8))(hp:parts.length≤1048576)(hbs:∀b∈parts,b.length≤1099511627776)(H:Heap)(n:Nat):Ret prog 127 [.sl 1 (parts.map bys)] H n (.int .u32 (sumF parts)) H n:=by
 refine fw func127 ntmps127 results127 ?_;refine kcu ?_;refine rg zs [0,3] ?_;refine Za fun K1 hK1=> ?_;refine rg zs [0,3,4] ?_;refine kbM ?_;refine Zk (fun T' H' n'=>∃i r:Nat,i≤parts.length∧r<4294967296∧(r:Int)=(parts.take i).foldl sumP 4294967295∧T'=tl [(0,.sl 1 (parts.map bys)),(3,.int .u32 r),(4,.int .i64 i)]∧H=H'∧n=n') (fun T' _ _=>parts.length-iv (T' 4)) ?_ ?_
 ·exact⟨0,4294967295,Nat.zero_le _,odc,rfl,rfl,rfl,rfl⟩
 rintro T1 H1 n1 ⟨i,r,hi,hr,hrf,rfl,rfl,rfl⟩;refine Za fun K2 hK2=> ?_;refine rg zs [0,3,4,12] ?_;refine Zb ?_ ?_<;>intro hb
 ·have hlt:i<parts.length:=ott;have hnth:nth (parts.map bys) i=bys (parts.getD i []):=Zr bys parts _ hlt;have hm:parts.getD i []∈parts:=by rw[show parts.getD i []=parts[i] by simp[List.getD,hlt]];exact List.getElem_mem hlt
  have hstep:(parts.take (i+1)).foldl sumP 4294967295=sumP (r:Int) (parts.getD i []):=by rw[List.take_succ_eq_append_getElem hlt,List.foldl_append,←hrf];simp[List.getD,hlt]
  obtain⟨b,hbd⟩:∃b,b=parts.getD i []:=⟨_,rfl⟩;rw[←hbd]at hnth hm hstep;have hbl:=hbs b hm;refine kaQ ?_;refine bk fun K3 hK3=> ?_;refine rg zs [0,3,4,5] ?_;refine kbM ?_;refine Zk (fun T' H' n'=>∃j x:Nat,j≤b.length∧x<4294967296∧(x:Int)=sumP (r:Int) (b.take j)∧T'=tl [(0,.sl 1 (parts.map bys)),(3,.int .u32 x),(4,.int .i64 i),(5,.int .i64 j)]∧H=H'∧n=n') (fun T' _ _=>b.length-iv (T' 5)) ?_ ?_
  ·exact⟨0,r,Nat.zero_le _,hr,rfl,rfl,rfl,rfl⟩
  rintro T1 H1 n1 ⟨j,x,hj,hx,hxf,rfl,rfl,rfl⟩;refine Za fun K4 hK4=> ?_;refine Zg zs [0,3,4,5,21] fun K V=> ?_
  try simp only[go_sem,seval,qb,hnth,qd]
  repeat (first | (refine And.intro ?_ ?_;· first | exact⟨om,om⟩) | refine peel ?_)
  refine kas ?_;refine Zb ?_ ?_<;>intro hb
  ·have hltj:j<b.length:=ott;have hntj:nth (b.map Zd) j=Zd (b.getD j 0):=Zr Zd b _ hltj;have hst:sumP (r:Int) (b.take (j+1))=sumS (x:Int) (b.getD j 0):=by unfold sumP at hxf ⊢;rw[List.take_succ_eq_append_getElem hltj,List.foldl_append,←hxf];simp[List.getD,hltj]
   have hbit:=sumS_bit hx (b.getD j 0);have hcl:=(b.getD j 0).toNat_lt;refine kb3 ?_;refine bk fun K5 hK5=> ?_;refine Zg zs [0,3,4,5,6] fun K V=> ?_
   try simp only[go_sem,seval,qb,hnth,hntj,qd]
   repeat (first | (refine And.intro ?_ ?_;· first | exact⟨om,om⟩) | refine peel ?_)
   refine kas ?_;refine rg zs [0,3,4,5,6,7] ?_;refine kbM ?_;refine Zk (fun T' H' n'=>∃(k:Nat) (y:Nat×Nat),k≤8∧y.1<4294967296∧y.2<256∧(bitN (8-k) y).1=bit8 x (b.getD j 0).toNat∧T'=tl [(0,.sl 1 (parts.map bys)),(3,.int .u32 y.1),(4,.int .i64 i),(5,.int .i64 j),(6,.int .u8 y.2),(7,.int .i64 k)]∧H=H'∧n=n') (fun T' _ _=>8-iv (T' 7)) ?_ ?_
   ·exact⟨0,(x,(b.getD j 0).toNat),om,hx,hcl,rfl,rfl,rfl,rfl⟩
   rintro T1 H1 n1 ⟨k,y,hk,hy1,hy2,hyb,rfl,rfl,rfl⟩;refine Za fun K6 hK6=> ?_;refine rg zs [0,3,4,5,6,7,32] ?_;refine Zb ?_ ?_<;>intro hb
   ·have hk8:k<8:=ott;have d1:IntKind.u32.wrap ((y.1:Int).tdiv 2)=((y.1/2:Nat):Int):=by rw[Int.tdiv_eq_ediv_of_nonneg om,IntKind.wrap_u32];omega
    have d2:IntKind.u8.wrap ((y.2:Int).tdiv 2)=((y.2/2:Nat):Int):=by rw[Int.tdiv_eq_ediv_of_nonneg om,IntKind.wrap_u8];omega
    have d3:IntKind.u32.wrap ((y.1:Int).tmod 2)=((y.1%2:Nat):Int):=by rw[Int.tmod_eq_emod_of_nonneg om,IntKind.wrap_u32];omega
    have d4:IntKind.u32.wrap (y.2:Int)=(y.2:Int):=by rw[IntKind.wrap_u32];omega
    have d5:IntKind.u32.wrap ((y.2:Int).tmod 2)=((y.2%2:Nat):Int):=by rw[Int.tmod_eq_emod_of_nonneg om,IntKind.wrap_u32];omega
    have d7:(y.1:Int).tmod 2=((y.1%2:Nat):Int):=by rw[Int.tmod_eq_emod_of_nonneg om];omega
    have d8:(y.2:Int).tmod 2=((y.2%2:Nat):Int):=by rw[Int.tmod_eq_emod_of_nonneg om];omega
    have hn:bitN (8-(k+1)) (bitS y)=bitN (8-k) y:=by rw[show 8-k=(8-(k+1))+1 by omega];rfl
    refine ak ?_;apply hK6;refine bk fun K7 hK7=> ?_;refine Zg zs [0,3,4,5,6,7,8] fun K V=> ?_
    try simp only[go_sem,seval,qb,d3,d4,d5]
    refine kad ?_;refine Zg zs [0,3,4,5,6,7,8] fun K V=> ?_
    try simp only[go_sem,seval,qb,d1]
    refine kad ?_;refine Zg zs [0,3,4,5,6,7,8] fun K V=> ?_
    try simp only[go_sem,seval,qb,d2]
    refine kad ?_;refine rg zs [0,3,4,5,6,7,45] ?_;refine Zb ?_ ?_<;>intro hb
    ·have hodd:y.1%2≠y.2%2:=by have h9:=hb;rw[d7,d8]at h9;simp only[bne_iff_ne,ne_eq,bne_eq_false_iff_eq]at h9;omega
     have hB:bitS y=(y.1/2 ^^^ 2197175160,y.2/2):=by unfold bitS;rw[if_pos hodd]
     have d6:intBits .xor .u32 ((y.1/2:Nat):Int) 2197175160=((y.1/2 ^^^ 2197175160:Nat):Int):=xor32 (a:=y.1/2) (b:=2197175160) om odc;refine ZP zs [0,3,4,5,6,7] fun K V=> ?_
     try simp only[go_sem,seval,qb,d6]
     refine kad ?_;refine ns ?_;exact kbn
    have hodd:¬(y.1%2≠y.2%2):=by have h9:=hb;rw[d7,d8]at h9;simp only[bne_iff_ne,ne_eq,bne_eq_false_iff_eq]at h9;omega
    have hB:bitS y=(y.1/2,y.2/2):=by unfold bitS;rw[if_neg hodd]
    refine ak ?_;exact kbn
   have hk8:k=8:=otf;subst hk8;have hyb:y.1=bit8 x (b.getD j 0).toNat:=hyb;refine ax ?_;apply hK5;refine rg1 zs [0,3,4,5] ?_;exact⟨⟨j+1,y.1,om,hy1,by rw[hst,hbit.1,hyb],by rw[w1 om]⟩,by rw[w1 om];simp;omega⟩
  have hgej:j=b.length:=otf;refine ax ?_;apply hK3;refine rg1 zs [0,3,4] ?_;exact⟨⟨i+1,x,om,hx,by rw[hstep,hxf,hgej,List.take_length],by rw[w1 om]⟩,by rw[w1 om];simp;omega⟩
 have hge:i=parts.length:=otf;refine ax ?_;apply hK1;refine kal ?_;rw[hge,List.take_length]at hrf;unfold sumF;rw[←hrf,show(4294967295:Int)=((4294967295:Nat):Int)from rfl,xor32 odc hr,xor_ones hr,IntKind.wrap_u32];congr 2;omega
theorem NHi0.eqs{P Q:Prop}(g:Imp P Q:=by(try simp only[go_sem,seval,Zt]);exact Imp.rf):Imp P Q:=g
theorem NHi0.sd{P:Prop}(g:P:=by first | exact Yg _ | fail):P:=g
open NHi0 NZ in
theorem Xm(a b:List UInt8)(H:Heap)(n:Nat):Ret prog 46 [bys a,bys b] H n (.bool (a==b)) H n:=by
 refine fw func46 ntmps46 results46 ?_;refine kb1 ?_;refine kag ?_;trivial
theorem NHi1.eqs{P Q:Prop}(g:Imp P Q:=by(try simp only[go_sem,seval,qb]);exact Imp.rf):Imp P Q:=g
open NHi1 NY in
theorem V6(b:List UInt8)(p:Int)(H:Heap)(n:Nat):Ret prog 132 [bys b,.int .i64 p] H n (.bool (decide (p<0)||decide ((b.length:Int)<p))) H n:=by
 refine fw func132 ntmps132 results132 ?_;refine kb1 ?_;refine kag ?_;cases decide (p<0)<;>simp
theorem NHi2.eqs{P Q:Prop}(g:Imp P Q:=by(try simp only[go_sem,seval,qb,e1,Option.getD_some,qd]);exact Imp.rf):Imp P Q:=g
theorem NHi2.sd{P:Prop}(g:P:=by first | exact⟨.inr trivial,om,om⟩ | fail):P:=g
open NHi2 NZ in
theorem Vn(b:List UInt8)(hb:b.length≤1099511627776)(lo hi:Nat)(h1:lo≤hi)(h2:hi≤b.length)(H:Heap)(n:Nat):Ret prog 58 [bys b,.int .i64 lo,.int .i64 hi] H n (.osl n 1 0 ((b.take hi).drop lo).length) (H.put n (some (.arr 1 1 (((b.take hi).drop lo).map Zd)))) (n+1):=by
 have e1:List.drop lo (List.take hi (b.map Zd))=((b.take hi).drop lo).map Zd:=by rw[List.map_drop,List.map_take]
 have hl:((b.take hi).drop lo).length≤b.length:=by rw[List.length_drop,qk];omega
 refine fw func58 ntmps58 results58 ?_;refine rg zs [0,1,2] ?_;refine rg zs [0,1,2,7] ?_;refine ZN 7 1 rfl ?_;simp only[go_sem,seval];refine rg zs [6] ?_;refine ar ?_;trivial
theorem Uq(b:List UInt8)(hb:b.length≤1099511627776)(lo hi:Nat)(h1:lo≤hi)(h2:hi≤b.length)(H:Heap)(n:Nat):Ret prog 58 [bys b,.int .i64 lo,.int .i64 hi] H n (bys ((b.take hi).drop lo)) H n:=
 by
   have h:=Vn b hb lo hi h1 h2 H n;generalize (b.take hi).drop lo=w at h ⊢;exact Ret.fin (h.mono fun res H1 n1 ⟨hr,hH,hn⟩=>⟨_,hr,fun k hk=>by rw[hH,Rk _ _ om],by
     rw[hH];exact .osl (Rm _ _ _) (Nat.le_refl _) osi (by rw[List.drop_zero,List.take_of_length_le osi];exact XM _ (Kj _ n))⟩)
theorem NHi3.eqs{P Q:Prop}(g:Imp P Q:=by(try simp only[go_sem,seval,fdiv8,fdiv16,fdiv24,XJ]);exact Imp.rf):Imp P Q:=g
theorem NHi3.sd{P:Prop}(g:P:=by first | exact⟨rfl,by(simp[Zd,AV.sz,AV.memOK];first | done | fail)⟩ | fail):P:=g
open NHi3 NZ in
theorem Vk(b:List UInt8)(hb:b.length≤1099511627776)(H:Heap)(n:Nat):Ret prog 133 [bys b] H n (bys (lowB (sumF [b]))) H n:=by
 refine Ret.fin ?_;refine fw func133 ntmps133 results133 ?_;refine kcu ?_;refine rk zs [3] fun K V=> ?_;refine ck func127 ((PU [b] osi (fun x hx=>by rw[List.mem_singleton.1 hx];omega) _ _)) ?_;refine kas ?_;refine kal ?_;exact⟨_,rfl,.kl (Z4 (lowB (sumF [b])) n)⟩
theorem N8:∀(l:List UInt8) (v:Nat),l.foldl (fun v c=>256*v+c.toNat) v<(v+1)*256^l.length
 | [],v=>osi
 | c::l,v=>by
   have ih:=N8 l (256*v+c.toNat);have:=c.toNat_lt;rw[List.foldl_cons,qi,Nat.pow_succ,Nat.mul_comm (256^l.length),←Nat.mul_assoc];exact Nat.lt_of_lt_of_le ih (Nat.mul_le_mul_right _ om)
def numB:Nat→List UInt8→Nat:=fun v l=>l.foldl (fun v c=>256*v+c.toNat) v
theorem NHi4.eqs{P Q:Prop}(g:Imp P Q:=by(try simp only[go_sem,seval,qb]);exact Imp.rf):Imp P Q:=g
open NHi4 NY in
theorem c_ref1_number(b:List UInt8)(hb:b.length≤1099511627776)(p m:Nat)(hm:m≤7)(h:p+m≤b.length)(H:Heap)(n:Nat):Ret prog 134 [bys b,.int .i64 p,.int .i64 m] H n (.int .u64 (numB 0 ((b.drop p).take m))) H n:=by
 refine fw func134 ntmps134 results134 ?_;refine rg zs [0,1,2] ?_;refine rg zs [0,1,2,7] ?_;refine Za fun K1 hK1=> ?_;refine rg zs [0,1,2,7,8] ?_;refine kbM ?_;refine Zk (fun T' H' n'=>∃i:Nat,i≤m∧T'=tl [(0,bys b),(1,.int .i64 p),(2,.int .i64 m),(7,.int .u64 (numB 0 ((b.drop p).take i))),(8,.int .i64 i)]∧H=H'∧n=n') (fun T' _ _=>m-iv (T' 8)) ?_ ?_
 ·exact⟨0,Nat.zero_le _,rfl,rfl,rfl⟩
 rintro T1 H1 n1 ⟨i,hi,rfl,rfl,rfl⟩;refine Za fun K2 hK2=> ?_;refine rg zs [0,1,2,7,8,11] ?_;refine Zb ?_ ?_<;>intro hb
 ·have hlt:i<m:=ott;have hN:numB 0 ((b.drop p).take i)<72057594037927936:=by
    have h1:=N8 ((b.drop p).take i) 0;have h2:256^((b.drop p).take i).length≤256^7:=Nat.pow_le_pow_right om (by rw[qk];omega);unfold numB;omega
  have hnx:numB 0 ((b.drop p).take (i+1))=256*numB 0 ((b.drop p).take i)+(b.getD (p+i) 0).toNat:=by
    unfold numB;rw[List.take_succ_eq_append_getElem (by rw[List.length_drop];omega),List.foldl_append];simp[List.getD,show p+i<b.length by omega]
  have hcl:=(b.getD (p+i) 0).toNat_lt;have e1:IntKind.i64.wrap ((p:Int)+(i:Int))=((p+i:Nat):Int):=by rw[w64 om om];omega
  have hnth:nth (b.map Zd) (p+i)=Zd (b.getD (p+i) 0):=Zr Zd b _ om;generalize hv:numB 0 ((b.drop p).take i)=v at hN hnx;have e2:IntKind.u64.wrap (256*(v:Int))=((256*v:Nat):Int):=by rw[IntKind.wrap_u64];omega
  have e3:IntKind.u64.wrap ((b.getD (p+i) 0).toNat:Int)=((b.getD (p+i) 0).toNat:Int):=by rw[IntKind.wrap_u64];omega
  have e4:IntKind.u64.wrap (((256*v:Nat):Int)+((b.getD (p+i) 0).toNat:Int))=((numB 0 ((b.drop p).take (i+1)):Nat):Int):=by rw[IntKind.wrap_u64,hnx];omega
  refine kaQ ?_;refine bk fun K3 hK3=> ?_;refine ZP zs [0,1,2,7,8] fun K V=> ?_
  try simp only[go_sem,seval,qb,e1,e2,e3,e4,hnth,qd]
  repeat (first | (refine And.intro ?_ ?_;· first | exact⟨om,om⟩) | refine peel ?_)
  refine kas ?_;refine ns ?_;apply hK3;refine rg1 zs [0,1,2,7,8] ?_;exact⟨⟨i+1,om,by rw[w1 om]⟩,by rw[w1 om];simp;omega⟩
 have hge:i=m:=otf;refine ax ?_;apply hK1;refine rg zs [6] ?_;refine ar ?_;rw[hge]
def Qo(v:Nat):Nat→List UInt8
 | 0=>[]
 | i+1=>Yb ((v/256^i:Nat):Int)::Qo v i
theorem YP(v:Nat):∀i,(Qo v i).length=i
 | 0=>rfl
 | i+1=>by rw[Qo,qi,YP v i]
theorem eight_step{x:Nat}(hx:x<18446744073709551616):AV.int .u8 (IntKind.u8.wrap ((x:Int).tmod 256))=Zd (Yb (x:Int))∧IntKind.u64.wrap ((x:Int).tdiv 256)=((x/256:Nat):Int):=by
 refine⟨?_,?_⟩
 ·rw[←XJ,Int.tmod_eq_emod_of_nonneg om];congr 1;rw[IntKind.wrap_u8,IntKind.wrap_u8];omega
 ·rw[Int.tdiv_eq_ediv_of_nonneg om,IntKind.wrap_u64];omega
theorem NHi5.eqs{P Q:Prop}(g:Imp P Q:=by(try simp only[go_sem,seval,qb,hA,q1,hw,YP]);exact Imp.rf):Imp P Q:=g
open NHi5 NY in
theorem c_ref1_eight(v:Nat)(hv:v<18446744073709551616)(H:Heap)(n:Nat):Ret prog 146 [.int .u64 v] H n (bys (Qo v 8)) H n:=by
 have hA:=hv;have q1:=hv;have hw:=hv;refine Ret.fin ?_;refine fw func146 ntmps146 results146 ?_;refine kcu ?_;refine rg zs [0,3] ?_;refine Za fun K1 hK1=> ?_;refine rg zs [0,3,4] ?_;refine kbM ?_;refine ZN 3 1 rfl ?_;refine Yl [0,3,4] ?_;simp only[go_sem,seval];refine Zk (fun T' H' n'=>∃i k ver:Nat,i≤8∧T'=tl [(0,.int .u64 (v/256^i:Nat)),(3,.osl k ver 0 i),(4,.int .i64 i)]∧H' k=some (.arr ver 1 ((Qo v i).map Zd))∧n≤k∧k<n'∧(∀k,k<n→H' k=H k)) (fun T' _ _=>8-iv (T' 4)) ?_ ?_
 ·exact⟨0,n,0,om,osi,Rm _ _ _,Nat.le_refl _,om,fun k hk=>Rk _ _ om⟩
 rintro T1 H1 n1 ⟨i,k,ver,hi,rfl,hA,hk1,hk2,hlow⟩;refine Za fun K2 hK2=> ?_;refine rg zs [0,3,4,6] ?_;refine Zb ?_ ?_<;>intro hb
 ·have hi8:i<8:=ott;have hx:v/256^i<18446744073709551616:=Nat.lt_of_le_of_lt (Nat.div_le_self _ _) hv;obtain⟨hb1,hw⟩:=eight_step hx;rw[Nat.div_div_eq_div_mul,←Nat.pow_succ]at hw;have q1:(k=n1)=False:=oz;have e1:List.take i ((Qo v i).map Zd)=(Qo v i).map Zd:=List.take_of_length_le (by simp[YP]);refine kaQ ?_;refine bk fun K3 hK3=> ?_;refine Zg zo [0,3,4] fun K V=> ?_
  try simp only[go_sem,seval,qb,hA,q1,hw,YP,hb1,e1]
  repeat (first | (refine And.intro ?_ ?_;· first | exact⟨rfl,by simp[Zd,AV.sz,AV.memOK]⟩ | exact⟨om,.inr trivial,om,om⟩) | refine peel ?_)
  refine kas ?_;refine ZP zs [0,3,4] fun K V=> ?_
  try simp only[go_sem,seval,qb,hA,q1,hw,YP,hw]
  refine kad ?_;refine ns ?_;apply hK3;refine rg1 zs [0,3,4] ?_;exact⟨⟨i+1,n1,1,om,by rw[w1 om,Nat.add_comm 1 i],by rw[if_pos rfl];rfl,om,om,fun k hk=>by rw[if_neg om];exact hlow k hk⟩,by rw[w1 om];simp;omega⟩
 obtain rfl:i=8:=otf;refine ax ?_;apply hK1;refine kal ?_;exact⟨_,rfl,hlow,.osl hA hk1 (by simp[YP]) (by rw[List.drop_zero,List.take_of_length_le (by simp[YP])];exact XM _ (Kj _ n))⟩
theorem NHi6.eqs{P Q:Prop}(g:Imp P Q:=by(try simp only[go_sem,seval,qb]);exact Imp.rf):Imp P Q:=g
set_option maxHeartbeats 1600000 in
open NHi6 NY in
theorem QJ(b:List UInt8)(p:Nat)(hb:b.length≤1099511627776)(hp:p≤1099511627776)(H:Heap)(n:Nat):Ret prog 98 [bys b,.int .i64 p] H n (ruAV (ruB b p)) H n:=by
 refine fw func98 ntmps98 results98 ?_;refine kb1 ?_;refine Za fun K1 hK1=> ?_;refine rc zs [0,1,13] func132 ((V6 b p _ _)) ?_;refine Zb ?_ ?_<;>intro hb
 ·have h1:b.length<p:=by have h9:=hb;simp at h9;omega
  have hres:ruB b p=(0,0,1):=by unfold ruB;rw[if_pos h1]
  exact kaS
 have h1:¬b.length<p:=by have h9:=hb;simp at h9;omega
 have hru:ruB b p=ruL b p 10 0:=by unfold ruB;rw[if_neg h1]
 refine kay ?_;refine rg zs [0,1,7] ?_;refine rg zs [0,1,7,8] ?_;refine Za fun K2 hK2=> ?_;refine rg zs [0,1,7,8,9] ?_;refine kbM ?_;refine Zk (fun T' H' n'=>∃f v:Nat,f≤9∧v<2^(7*(9-f))∧T'=tl [(0,bys b),(1,.int .i64 p),(7,.int .u64 v),(8,.int .u64 (2^(7*(9-f)):Nat)),(9,.int .i64 (9-f:Nat))]∧H'=H∧n'=n∧ruL b p (f+1) v=ruB b p) (fun T' _ _=>9-iv (T' 9)) ?_ ?_
 ·exact⟨9,0,om,osi,rfl,rfl,rfl,hru.symm⟩
 rintro T1 H1 n1 ⟨f,v,hf,hv,rfl,rfl,rfl,hix⟩;refine Za fun K3 hK3=> ?_;have e1:IntKind.i64.wrap ((p:Int)+((9-f:Nat):Int))=((p+(9-f):Nat):Int):=by rw[w64 om om];omega
 unfold ruL at hix;refine rg zs [0,1,7,8,9,15] ?_;refine Zb ?_ ?_<;>intro hb
 ·refine kba ?_;refine bk fun K4 hK4=> ?_;refine Za fun K5 hK5=> ?_;refine Zg zs [0,1,7,8,9,23] fun K V=> ?_
  try simp only[go_sem,seval,qb,e1]
  refine kad ?_;refine Zb ?_ ?_<;>intro hb
  ·have hlt:b.length≤p+(9-f):=ott;have hres:ruB b p=(0,0,10):=by rw[←hix,if_pos hlt]
   exact kaS
  have hlt:¬b.length≤p+(9-f):=otf;rw[if_neg hlt]at hix;have hnth:nth (b.map Zd) (p+(9-f))=Zd (b.getD (p+(9-f)) 0):=Zr Zd b _ om;generalize b.getD (p+(9-f)) 0=c at*;have hcl:=c.toNat_lt;have ec:IntKind.u64.wrap (c.toNat:Int)=(c.toNat:Int):=by rw[IntKind.wrap_u64];omega
  refine ak ?_;apply hK5;refine Zg zs [0,1,7,8,9,10] fun K V=> ?_
  try simp only[go_sem,seval,qb,e1,hnth,qd,Zd,ec]
  repeat (first | (refine And.intro ?_ ?_;· first | exact⟨om,om⟩) | refine peel ?_)
  refine kas ?_;refine Za fun K6 hK6=> ?_;refine rg zs [0,1,7,8,9,10,36] ?_;refine Zb ?_ ?_<;>intro hb
  ·have h3:(9-f=9)∧1<c.toNat:=by have h9:=Vw hb;exact⟨by have:=h9.1;simp at this;omega,by have:=of_decide_eq_true h9.2;omega⟩
   have hres:ruB b p=(0,0,13):=by rw[←hix,if_pos h3]
   exact kaS
  have h3:¬((9-f=9)∧1<c.toNat):=by rintro⟨h4,h5⟩;rw[h4,decide_eq_true (by omega:(1:Int)<(c.toNat:Int))]at hb;cases hb
  rw[if_neg h3]at hix;refine ak ?_;apply hK6;have hm:c.toNat%128*2^(7*(9-f))≤127*2^56∨c.toNat%128*2^(7*(9-f))≤1*2^63:=by
    exact kbL
  have hv2:v<9223372036854775808:=Nat.lt_of_lt_of_le hv (Nat.pow_le_pow_right om (show 7*(9-f)≤63 by omega));obtain⟨m,hmd⟩:∃m,m=c.toNat%128*2^(7*(9-f)):=⟨_,rfl⟩;rw[←hmd]at hix hm;have em:IntKind.u64.wrap (((2^(7*(9-f)):Nat):Int)*((c.toNat:Int).tmod 128))=(m:Int):=by
    rw[Int.tmod_eq_emod_of_nonneg om,show((c.toNat:Int)%128)=((c.toNat%128:Nat):Int) by omega,←Int.natCast_mul,Nat.mul_comm,←hmd,IntKind.wrap_u64];omega
  have ev:IntKind.u64.wrap ((v:Int)+(m:Int))=((v+m:Nat):Int):=by rw[IntKind.wrap_u64];omega
  refine Zg zs [0,1,7,8,9,10] fun K V=> ?_
  try simp only[go_sem,seval,qb,em,ev]
  refine kad ?_;refine rg zs [0,1,7,8,9,10] ?_;refine rg zs [0,1,7,8,9,10,46] ?_;refine Zb ?_ ?_<;>intro hb
  ·have h4:c.toNat<128:=ott;rw[if_pos h4]at hix;refine Za fun K7 hK7=> ?_;refine rg zs [1,7,9,52] ?_;refine Zb ?_ ?_<;>intro hb
   ·have h5:c.toNat=0∧0<9-f:=by have h9:=Vw hb;exact⟨by have:=h9.1;simp at this;omega,by have:=of_decide_eq_true h9.2;omega⟩
    have hres:ruB b p=(0,0,11):=by rw[←hix,if_pos h5]
    exact kaS
   have h5:¬(c.toNat=0∧0<9-f):=by rintro⟨h6,h7⟩;rw[h6,decide_eq_true (by omega:(0:Int)<((9-f:Nat):Int))]at hb;cases hb
   rw[if_neg h5]at hix;have e6:IntKind.i64.wrap (((p+(9-f):Nat):Int)+1)=((p+(9-f)+1:Nat):Int):=by rw[w64 om om];omega
   refine ak ?_;apply hK7;refine Zg zs [4,5,6] fun K V=> ?_
   try simp only[go_sem,seval,qb,e1,e6]
   refine kad ?_;refine ar ?_;rw[←hix];rfl
  have h4:¬c.toNat<128:=otf;rw[if_neg h4]at hix;have hf0:0<f:=Nat.pos_of_ne_zero fun h0=>h3 ⟨om,om⟩;obtain⟨g,rfl⟩:∃g,f=g+1:=⟨f-1,om⟩;have e8:9-(g+1)=8-g:=om;rw[e8]at hv hmd;have e7:IntKind.i64.wrap (((8-g:Nat):Int)+1)=((9-g:Nat):Int):=by rw[w64 om om];omega
  have h6:7*(9-g)=7*(8-g)+7:=om;have e9:IntKind.u64.wrap (((2^(7*(8-g)):Nat):Int)*128)=((2^(7*(9-g)):Nat):Int):=by
    have h8:2^(7*(9-g))≤2^63:=Nat.pow_le_pow_right om om;have h9:2^(7*(9-g))=2^(7*(8-g))*128:=by rw[h6,Nat.pow_add]
    generalize 2^(7*(9-g))=z at h8 h9 ⊢;generalize 2^(7*(8-g))=y at h9 ⊢;rw[IntKind.wrap_u64];omega
  refine kb3 ?_;refine ZP zs [0,1,7,8,9] fun K V=> ?_
  try simp only[go_sem,seval,qb,e7,e8]
  refine kad ?_;refine ns ?_;rw[e9];refine⟨⟨g,v+m,om,?_,rfl,hix⟩,by simp[iv];omega⟩;rw[h6,Nat.pow_add,hmd];exact kcv
 exact absurd (of_decide_eq_false hb) om
theorem NHi7.eqs{P Q:Prop}(g:Imp P Q:=by(try simp only[go_sem,seval,qb,ruAV,Ya,hum,List.length_drop,qk]);exact Imp.rf):Imp P Q:=g
set_option maxHeartbeats 1600000 in
open NHi7 NY in
theorem Mj(b:List UInt8)(p most:Nat)(hb9:b.length≤1099511627776)(hp:p≤1099511627776)(hm:most≤1099511627776)(H:Heap)(n:Nat):Ret prog 99 [bys b,.int .i64 p,.int .i64 most] H n (rbAV (rbB b p most)) H n:=by
 obtain⟨hu1,hu2,hu3⟩:=ruB_lt b p;have hum:u64 (most:Int)=most:=Wm _ om;refine Ret.fin ?_;refine fw func99 ntmps99 results99 ?_;refine rg zs [0,1,2] ?_;refine Za fun K1 hK1=> ?_;refine rc zs [0,1,2,18] func132 ((V6 b p _ _)) ?_;refine Zb ?_ ?_<;>intro hb
 ·have h1:b.length<p:=by have h0:¬((most:Int)<0):=om;simp[h0]at hb;omega
  have hres:rbB b p most=([],0,1):=by unfold rbB;rw[if_pos h1]
  exact kax
 have h1:¬b.length<p:=by have h0:¬((most:Int)<0):=om;simp[h0]at hb;omega
 refine kay ?_;refine rc zs [0,2,9,10,11] func98 ((QJ b p hb9 hp _ _)) ?_;refine Za fun K2 hK2=> ?_;refine rg zs [0,2,9,10,11,27] ?_;refine Zb ?_ ?_<;>intro hb
 ·have h2:(ruB b p).2.2≠0:=osb;have hres:rbB b p most=([],0,(ruB b p).2.2):=by unfold rbB;rw[if_neg h1,if_pos h2]
  exact kax
 have h2:(ruB b p).2.2=0:=osb;have hu4:=hu2 h2;refine kaQ ?_;refine Za fun K3 hK3=> ?_;refine rg zs [0,9,10,32] ?_;refine Zb ?_ ?_<;>intro hb
 ·have h3:most<(ruB b p).1:=ott;have hres:rbB b p most=([],0,13):=by unfold rbB;rw[if_neg h1,if_neg (by simp[h2]),if_pos h3]
  exact kax
 have h3:¬most<(ruB b p).1:=otf;refine kba ?_;refine Za fun K4 hK4=> ?_;have e1:IntKind.i64.wrap ((b.length:Int)-((ruB b p).2.1:Int))=((b.length-(ruB b p).2.1:Nat):Int):=by rw[w64 om om];omega
 have e2:u64 ((b.length-(ruB b p).2.1:Nat):Int)=b.length-(ruB b p).2.1:=Wm _ om;refine Zg zs [0,9,10,39] fun K V=> ?_
 try simp only[go_sem,seval,qb,ruAV,Ya,hum,List.length_drop,qk,e1,e2]
 refine kad ?_;refine Zb ?_ ?_<;>intro hb
 ·have h4:b.length-(ruB b p).2.1<(ruB b p).1:=ott;have hres:rbB b p most=([],0,10):=by unfold rbB;rw[if_neg h1,if_neg (by simp[h2]),if_neg h3,if_pos h4]
  exact kax
 have h4:¬b.length-(ruB b p).2.1<(ruB b p).1:=otf;have hres:rbB b p most=((b.drop (ruB b p).2.1).take (ruB b p).1,(ruB b p).2.1+(ruB b p).1,0):=by unfold rbB;rw[if_neg h1,if_neg (by simp[h2]),if_neg h3,if_neg h4]
 have e3:IntKind.i64.wrap ((ruB b p).1:Int)=((ruB b p).1:Int):=w64 om om;have e4:IntKind.i64.wrap (((ruB b p).2.1:Int)+((ruB b p).1:Int))=(((ruB b p).2.1+(ruB b p).1:Nat):Int):=by rw[w64 om om];omega
 have e5:(b.take ((ruB b p).2.1+(ruB b p).1)).drop (ruB b p).2.1=(b.drop (ruB b p).2.1).take (ruB b p).1:=by rw[List.take_add,List.drop_append_of_le_length oz,List.drop_take_self,List.nil_append]
 refine kb3 ?_;refine Zg zs [6,7,8] fun K V=> ?_;refine kb8 ?_
 repeat refine peel ?_
 refine Zu func58 rfl rfl rfl ((e5▸Uq b hb9 (ruB b p).2.1 ((ruB b p).2.1+(ruB b p).1) om om _ _)) ?_;refine kb8 ?_;refine kad ?_;refine ar ?_;refine⟨_,rfl,?_⟩;rw[hres];exact .kl ⟨Xg _ _,trivial,trivial,trivial⟩
theorem NC10.eqs{P Q:Prop}(g:Imp P Q:=by(try simp only[go_sem,seval,qb]);exact Imp.rf):Imp P Q:=g
open NC10 NY in
theorem KO(b:List UInt8)(hb:b.length≤1099511627776)(H:Heap)(n:Nat):Ret prog 23 [bys b] H n (.osl n 1 0 b.length) (H.put n (some (.arr 1 1 (b.map Zd)))) (n+1):=by
 have h9:=Vn b hb 0 b.length (Nat.zero_le _) (Nat.le_refl _) H n;exact kbY
theorem NC11.eqs{P Q:Prop}(g:Imp P Q:=by(try simp only[go_sem,seval,qb,hE,Option.getD_some,Option.getD_none,qd]);exact Imp.rf):Imp P Q:=g
theorem NC11.sd{P:Prop}(g:P:=by first | exact⟨Nat.le_refl _,.inr trivial,om,om⟩ | exact⟨rfl,by(simp[AV.sz,AV.memOK];first | done | fail)⟩ | fail):P:=g
open NC11 NZ in
theorem Qi(b:List UInt8)(hb:b.length≤1099511627776)(H:Heap)(n:Nat):Ret prog 65 [bys b] H n (.tup [.osl n 2 0 b.length,.osl n 2 0 (b.length+5)]) (H.put n (some (Ud (n,b)))) (n+1):=by
 have hE:List.take b.length (List.map Zd b)=List.map Zd b:=List.take_of_length_le osi;refine fw func65 ntmps65 results65 ?_;refine kcu ?_;refine rc zs [0,4] func23 ((KO b hb _ _)) ?_;refine rg zs [2,3] ?_;refine ar ?_;exact⟨by rw[Nat.sub_zero],by unfold Ud;rw[qj];rfl⟩
def Lr(rows:List RowE)(err:Int)(ks kw kt lo m:Nat)(kb:List (Nat×List UInt8))(tk:List Nat)(H:Heap)(n:Nat)(res:ARes)(H':Heap)(n':Nat):Prop:=
 n≤n'∧(∀k,k<n→k≠ks→k≠kw→k≠kt→H' k=H k)∧
 if m<rows.length then∃k1 k2 v2 js vw vt kb2 tels tk2,res= .val (.tup [.agg [.osl k1 2 0 (rows.getD m default).row.length,.osl k2 v2 0 (rows.getD m default).cells.length],.bool true,.int .i64 0])∧Own H' (.agg [.osl k1 2 0 (rows.getD m default).row.length,.osl k2 v2 0 (rows.getD m default).cells.length]) (Zf (rows.getD m default)) js∧(∀k∈js,n≤k∧k<n')∧SrcS rows err ks kw kt lo (m+1) vw vt kb2 tels tk2 H' n'∧(∀k∈tk2,k∈tk∨n≤k)∧tels.length≤m+1∧kb2.length≤kb.length+1+2*(rows.getD m default).cells.length
 else∃vw vt tels,res= .val (.tup [.agg [.nilsl,.nilsl],.bool false,.int .i64 err])∧SrcS rows err ks kw kt lo (m+1) vw vt kb tels tk H' n'∧tels.length≤m+1
theorem NC12.eqs{P Q:Prop}(g:Imp P Q:=by(try simp only[go_sem,seval,hO,g1,g2,g3,e1,e2,hrs,hra,hrm,hcs,hca,hcm,hnth,hW,hr1,hnc,hx1,hc1,ho1,i1,i2,i3,i4,i5,i6,i7,i8,j1,j2,j3,j4,j5,j6,j7,j8,hn5,hn6,hn7,hn8,hKt,hT1,qg,g13,g4,g5,g6,g7,g8,g9,g10,g11,g12,f2,f3,f4,f5,qb,qd,Zf,Zj]);exact Imp.rf):Imp P Q:=g
theorem NC12.sd{P:Prop}(g:P:=by first | exact⟨Nat.le_refl _,.inr trivial,by have:=hN.le;omega,by have:=hN.le;omega⟩ | exact⟨rfl,by(simp[AV.sz,AV.memOK];first | done | fail)⟩ | exact⟨rfl,by(simp[AV.sz,AV.szs,AV.memOK];first | done | fail)⟩ | exact⟨Nat.le_refl _,.inr trivial,om,om⟩ | fail):P:=g
set_option maxHeartbeats 6400000 in
open NC12 NZ in
theorem Kr(rows : List RowE)(err : Int)(hrl : rows.length ≤ 1048576)(hrb : ∀ x ∈ rows, x.row.length ≤ 1099511627776 ∧ x.cells.length ≤ 1048576 ∧ ∀ c ∈ x.cells, c.qual.length ≤ 1099511627776 ∧ c.value.length ≤ 1099511627776)(ks kw kt lo m vw vt : Nat)(kb : List (Nat × List UInt8))(tels : List AV)(tk : List Nat)(H : Heap)(n : Nat)
   (h:SrcS rows err ks kw kt lo m vw vt kb tels tk H n) (hm:m≤2097152) (htl:tels.length≤m) (hkl:kb.length≤4398046511104):Zn prog 187 [.loc ks 0 0 0 []] H n (Lr rows err ks kw kt lo m kb tk H n):=by
 have hO:=h.ho;unfold UT at hO;obtain⟨d1,d2,d3,d4,d5,d6,d7⟩:=h.d;have hrs:∀r,(Zf r).sz=2:=Ws;have hra:∀r,(Zf r).isAgg=true:=fun _=>rfl;have hrm:∀r,(Zf r).memOK=true:=fun _=>rfl;have hcs:∀c,(Zj c).sz=4:=Yp;have hca:∀c,(Zj c).isAgg=true:=fun _=>rfl;have hcm:∀c,(Zj c).memOK=true:=fun _=>rfl;have g1:(ks=n)=False:=oz;have g2:(ks=n+1)=False:=oz;have g3:(n=ks)=False:=oz;have e1:IntKind.i64.wrap ((m:Int)+1)=((m+1:Nat):Int):=w1 om;have e2:IntKind.i64.wrap (((m+1:Nat):Int)-1)=(m:Int):=by rw[w64 om om];omega
 have hnth:=d7;have hW:=d7;have hr1:=d7;have hnc:=d7;have hx1:=d7;have hc1:=d7;have ho1:=d7;have i1:=d7;have i2:=d7;have i3:=d7;have i4:=d7;have i5:=d7;have i6:=d7;have i7:=d7;have i8:=d7;have j1:=d7;have j2:=d7;have j3:=d7;have j4:=d7;have j5:=d7;have j6:=d7;have j7:=d7;have j8:=d7;have hn5:=d7;have hn6:=d7;have hn7:=d7;have hn8:=d7;have hKt:=d7;have hT1:=d7;have g4:(kw=ks)=False:=oz;have g13:(ks=kw)=False:=oz;have g5:(kw=n)=False:=oz;have g6:(kw=n+1)=False:=oz;have g7:(kw=n+2)=False:=oz;have g8:(kw=n+3)=False:=oz;have g9:(kw=n+4)=False:=oz;have g10:(ks=n+2)=False:=oz;have g11:(ks=n+3)=False:=oz;have g12:(ks=n+4)=False:=oz;have f2:(n+2=n+3)=False:=osi;have f3:(n+2=n+4)=False:=osi;have f4:(n+1=n+2)=False:=osi;have f5:(n+1=n)=False:=osi;refine fw func187 ntmps187 results187 ?_;refine rg zs [0,2] ?_;refine rg zs [0,2] ?_;refine Za fun K1 hK1=> ?_;refine dx zs [0,2,31] [.m,.q,.q,.q,.m,.q,.q,.q,.q,.q] [0,1,2,3,4,5,6,7,8,9] [0,1,2,3,4,5,6,7,8,9] fun K V=> ?_;apply V;clear V K;refine Zb ?_ ?_<;>intro hb
 ·have hge:¬m<rows.length:=ott;refine dx zs [2,3,4] [.q,.m,.q,.q,.q,.w [2,3,4],.q,.q] [0,1,2,3,4,5,6,7] [0,1,2,3,4,5,6,7] fun K V=> ?_;apply V;clear V K;refine ar ?_;unfold Lr
  first
  | (rw [if_neg hge]
     refine⟨om,fun k h1 h2 h3 h4=> ?_,vw,vt,tels,rfl,h.past hge (fun k h1 h2=> ?_) ?_ om,om⟩
     ·exact oh
     ·exact oh
     ·rw[Rk _ _ om,Rm];rfl)
 have hlt:m<rows.length:=otf;obtain⟨r,hr⟩:∃r,r=rows.getD m default:=⟨_,rfl⟩;have hnth:nth (rows.map Zf) m=Zf r:=hr▸Zr Zf rows m hlt;have hrb1:r.row.length≤1099511627776∧r.cells.length≤1048576∧∀c∈r.cells,c.qual.length≤1099511627776∧c.value.length≤1099511627776:=hr▸hrb _ (Yj rows hlt);have htk:=UN rows hlt;refine ak ?_;apply hK1;refine dx zs [0,2,5] [.m,.q,.q,.q,.m,.q,.q,.q,.q,.q,.q,.w [1,2,3,5,6,7,8,9,10],.w []] [0,1,2,3,4,5,6,7,8,9,10,11,12] [0,1,2,3,4,5,6,7,8,9,10,11,12] fun K V=> ?_;apply V;clear V K;refine rg zs [0,2,5,6] ?_;refine ZO (n+2) 4 (ver:=0) (e:=2) (els:=[.agg [.nilsl,.nilsl]]) (els':=[.agg [.nilsl,.osl (n+3) 0 0 0]]) (by simp[Heap.put]) ⟨Adp.agg ⟨.refl _ _,Adp.nilsl _,trivial⟩,trivial⟩ ?_;refine rc zs [0,2,5,6,7,8] func65 ((Qi r.row hrb1.1 _ _)) ?_;refine rg zs [0,2,5,6,8] ?_;have hW:=h.hw;refine rg zs [0,2,5,6] ?_;refine Za fun K2 hK2=> ?_;refine rg zs [0,2,5,6,9] ?_;refine Zq ?_;refine ZG (fun H' n'=>NxS rows err ks kw kt m r H n vt kb tels 0 (vw+1) 0 (kb++[(n+4,r.row)]) [] [] H' n'∧H' n=some (.arr 0 2 [.agg [.nilsl,.nilsl]])) ?_ fun H3 n3 ⟨hN,hT⟩=> ?_
 ·have hkb:∀p∈kb,lo≤p.1∧p.1<n:=fun p hp=>h.told.lo _ (h.wk p hp);rw[List.take_of_length_le osi];refine⟨⟨?_,?_,?_,?_,?_,Pile.nil _ _ _,?_,fun p hp=> ?_,fun p hp=> ?_,?_,fun k h1 h2 h3=> ?_,om,⟨Nat.le_refl _,osi⟩,fun p hp=>(hkb p hp).2,fun p hp=>(by rcases List.mem_append.1 hp with h1 | h1;exact h.wl p h1;rw[List.mem_singleton.1 h1];exact hrb1.1)⟩,?_⟩
  ·rw[Rm];unfold UT;rw[qe];rfl
  ·refine ohx ?_;rfl
  ·refine ohx ?_;rfl
  ·exact oh
  ·exact oh
  ·refine ohx ?_;rw[qj];rfl
  ·rcases List.mem_append.1 hp with h1 | h1
   ·have:=hkb p h1;refine ohx ?_;exact h.wb p h1
   ·rw[List.mem_singleton.1 h1];(try simp only[Rl]);(repeat first | rw[if_pos rfl] | rw[if_pos trivial] | rw[if_neg om])
  ·rcases List.mem_append.1 hp with h1 | h1
   ·exact .inl h1
   ·rw[List.mem_singleton.1 h1];exact .inr (.inl rfl)
  ·rw[qj];refine List.nodup_append.2 ⟨h.wd,osi,fun a ha b hb e=> ?_⟩;obtain⟨p,h3,rfl⟩:=List.mem_map.1 ha;have:=hkb p h3;simp at hb;omega
  ·exact oh
  ·exact oh
 refine Zk (fun T' H' n'=>∃(i vw2 vc:Nat) (kb2:List (Nat×List UInt8)) (els:List AV) (kcs:List Nat),i≤r.cells.length∧T'=tl [(0,.loc ks 0 0 0 []),(2,.loc n 0 0 0 []),(5,.loc (n+1) 0 0 0 []),(6,.loc (n+2) 0 0 0 []),(9,.int .i64 i)]∧NxS rows err ks kw kt m r H n vt kb tels i vw2 vc kb2 els kcs H' n'∧H' n=some (.arr 0 2 [.agg [.nilsl,.nilsl]])) (fun T' _ _=>r.cells.length-iv (T' 9)) ?_ ?_
 ·exact⟨0,_,_,_,_,_,Nat.zero_le _,rfl,hN,hT⟩
 rintro T1 H1 n1 ⟨i,vw2,vc,kb2,els,kcs,hi,rfl,hN,hT⟩;have hr1:=hN.hr;unfold Zf at hr1;have hx1:=hN.hx;have hc1:=hN.hc;have ho1:=hN.ho;unfold UT at ho1;have hW:=hN.hw;have hn1:=hN.lt;have i1:(n+2=n1)=False:=oz;have i2:(n+3=n1)=False:=oz;have i3:(ks=n1)=False:=oz;have i4:(kw=n1)=False:=oz;refine Za fun K3 hK3=> ?_;refine rg zs [0,2,5,6,9,71] ?_;refine Zb ?_ ?_<;>intro hb
 ·have hci:i<r.cells.length:=ott;have hnc:nth (r.cells.map Zj) i=Zj (r.cells.getD i default):=Zr Zj r.cells i hci;have hct:=UN r.cells hci;have hcb:=hrb1.2.2 _ (Yj r.cells hci);generalize r.cells.getD i default=c at*;have i5:(n+2=n1+1)=False:=oz;have i6:(n+3=n1+1)=False:=oz;have i7:(ks=n1+1)=False:=oz;have i8:(kw=n1+1)=False:=oz;have j1:(ks=n1+2)=False:=oz;have j2:(kw=n1+2)=False:=oz;have j3:(n+2=n1+2)=False:=oz;have j4:(n+3=n1+2)=False:=oz;have j5:(n+2=ks)=False:=oz;have j6:(n+3=ks)=False:=oz;have j7:(n+2=kw)=False:=oz;have j8:(n+3=kw)=False:=oz;have hn5:(n1=n1+1)=False:=osi;have hn6:(n1=n1+2)=False:=osi;have hn7:(n1=ks)=False:=oz;have hn8:(n1=kw)=False:=oz;have e1:IntKind.i64.wrap ((i:Int)+1)=((i+1:Nat):Int):=w1 om;refine ak ?_;apply hK3;refine bk fun K4 hK4=> ?_;refine rg zs [0,2,5,6,9,10] ?_;refine rc zs [0,2,5,6,9,10,11,12] func65 ((Qi c.qual hcb.1 _ _)) ?_;refine rc zs [0,2,5,6,9,10,11,12,13,14] func65 ((Qi c.value hcb.2 _ _)) ?_;refine rg zs [0,2,5,6,9,10,11,13] ?_;refine rg1 zs [0,2,5,6,9] ?_;apply hK4;refine rg1 zs [0,2,5,6,9] ?_;rw[List.take_of_length_le (Nat.le_refl els.length),List.take_of_length_le (show(kb2.map WM).length≤kb2.length by simp)];refine⟨⟨i+1,vw2+1,vc+1,_,_,_,om,rfl,hN.add hct hcb ⟨om,om,om⟩ (k1:=n1+1) (k2:=n1+2) ⟨om,om,om,om,om⟩ (fun k h1 h2 h3 h4 h5=> ?_) ?_ ?_ ?_ ?_ ?_ ?_,?_⟩,om⟩
  ·exact oh
  ·exact oh
  ·exact oh
  ·refine ohx ?_;rfl
  ·refine ohx ?_;rfl
  ·exact oh
  ·exact oh
  ·refine ohx ?_;exact hT
 have hci:i=r.cells.length:=otf;have hKt:H1 kt=some (.arr vt 2 tels):=(hN.low kt om om om).trans h.ht;have j4:(n=kt)=False:=oz;have hT1:=hT;have j1:(ks=kt)=False:=oz;have j2:(n+2=kt)=False:=oz;have j3:(n+2=ks)=False:=oz;refine ax ?_;apply hK2;refine dx zs [2,6] [.m,.m,.q,.q,.q,.q,.q,.w [],.q,.q,.w []] [0,1,2,3,4,5,6,7,8,9,10] [0,1,2,3,4,5,6,7,8,9,10] fun K V=> ?_;apply V;clear V K;refine rg zs [2,3,4] ?_;refine ar ?_;unfold Lr
 first
 | (rw [if_pos hlt, ← hr]
    rw[List.take_of_length_le (Nat.le_refl tels.length)];subst hci;have hel:els.length=r.cells.length:=by have:=hN.hp.own.len;rw[qb,List.take_of_length_le (Nat.le_refl _)]at this;exact this
    have hta:Lv r n vc els.length= .agg [.osl (n+4) 2 0 r.row.length,.osl (n+3) vc 0 r.cells.length]:=by rw[hel];rfl
    refine⟨om,fun k h1 h2 h3 h4=> ?_,n+4,n+3,vc,(n+4)::(n+3)::kcs,vw2,vt+1,kb2,tels++[Lv r n vc els.length],tk++((n+4)::(n+3)::kcs),by rw[←hta];rfl,?_,?_,hN.done h (hr▸htk) (fun k h1 h2 h3 h4=> ?_) (Nat.le_refl _) ?_ ?_,fun k hk=> ?_,by rw[qe];simp;omega,by have:=hN.le;omega⟩
    ·refine ohx ?_;exact hN.low k h1 h2 h3
    ·rw[←hta];exact(hN.own (fun k a b=>oh)).1
    ·intro k hk;have:=(hN.own (H2:=H1) (fun _ _ _=>rfl)).2.2 k hk;omega
    ·exact oh
    ·refine ohx ?_;rfl
    ·refine ohx ?_;rfl
    ·rcases List.mem_append.1 hk with h9 | h9
     ·exact .inl h9
     ·have:=(hN.own (H2:=H1) (fun _ _ _=>rfl)).2.2 k h9;exact .inr om)
end Go.Proofs.YtkmkbndcekklmaaGreatDoor
namespace Go.Rt
open Go Go.Sx
structure COK{α:Type}(c:α→α→Int):Prop where
 anti:∀a b,c a b<0↔0<c b a
 tr:∀a b d,c a b≤0→c b d≤0→c a d≤0
section
variable {α:Type}{c d:α→α→Int}
theorem COK.zs(h:COK c){a b:α}(h0:c a b=0):c b a=0:=by
 exact kcM
theorem COK.neg(h:COK c){a b:α}(h0:c a b≤0):0≤c b a:=by
 exact kcM
theorem COK.pos(h:COK c){a b:α}(h0:0≤c a b):c b a≤0:=by
 exact kcM
theorem COK.lt_le(h:COK c){a b e:α}(h1:c a b<0)(h2:c b e≤0):c a e<0:=by
 have h3:=h.tr a b e om h2;rcases Int.lt_or_eq_of_le h3 with h4 | h4
 ·exact h4
 ·have h5:=h.zs h4;have h6:=h.tr b e a h2 om;have:=(h.anti a b).1 h1;omega
theorem COK.le_lt(h:COK c){a b e:α}(h1:c a b≤0)(h2:c b e<0):c a e<0:=by
 have h3:=h.tr a b e h1 om;rcases Int.lt_or_eq_of_le h3 with h4 | h4
 ·exact h4
 ·have h5:=h.zs h4;have h6:=h.tr e a b om h1;have:=(h.anti b e).1 h2;omega
theorem COK.zz(h:COK c){a b e:α}(h1:c a b=0)(h2:c b e=0):c a e=0:=by
 have h3:=h.tr a b e om om;have h4:=h.tr e b a (by have:=h.zs h2;omega) (by have:=h.zs h1;omega);have:=h.neg h4;omega
def thenC(c d:α→α→Int)(a b:α):Int:=if c a b≠0 then c a b else d a b
theorem COK.then(hc:COK c)(hd:COK d):COK (thenC c d) where
 anti:=fun a b=>by
   unfold thenC;have h1:=hc.anti a b;have h2:=hc.anti b a;have h3:=hd.anti a b
   by_cases h:c a b=0
   ·have h':=hc.zs h;simp[h,h',h3]
   ·have h':c b a≠0:=fun e=>h (hc.zs e);simp[h,h',h1]
 tr:=fun a b e h1 h2=>by
   unfold thenC at*;by_cases ha:c a b=0
   ·rw[if_neg (by simp[ha])]at h1;by_cases hb:c b e=0
    ·rw[if_neg (by simp[hb])]at h2;rw[if_neg (by simp[hc.zz ha hb])];exact hd.tr _ _ _ h1 h2
    ·rw[if_pos hb]at h2;have:=hc.le_lt (a:=a) (b:=b) (e:=e) om om;rw[if_pos om];omega
   ·rw[if_pos ha]at h1;have h2':c b e≤0:=by
      by_cases hb:c b e=0
      ·omega
      ·rw[if_pos hb]at h2;exact h2
    have:=hc.lt_le (a:=a) (b:=b) (e:=e) om h2';rw[if_pos om];omega
end
theorem Qq(a b:UInt8)(az bs:List UInt8):Lib.compareBytes (a::az) (b::bs)=if a<b then -1 else if b<a then 1 else Lib.compareBytes az bs:=rfl
theorem JJ:∀(a b:List UInt8),Lib.compareBytes a b<0↔0<Lib.compareBytes b a
 | [],[]=>odc
 | [],_::_=>by simp[Lib.compareBytes]
 | _::_,[]=>by simp[Lib.compareBytes]
 | a::az,b::bs=>by
   rw[Qq,Qq];have:=JJ az bs;by_cases h1:a<b
   ·have h2:¬b<a:=by simp only[UInt8.lt_iff_toNat_lt]at *;omega
    simp[h1,h2]
   ·by_cases h2:b<a
    ·simp[h1,h2]
    ·simp[h1,h2,this]
theorem cb_tr:∀(a b c:List UInt8),Lib.compareBytes a b≤0→Lib.compareBytes b c≤0→Lib.compareBytes a c≤0
 | [],_,[]=>fun _ _=>odc
 | [],_,_::_=>fun _ _=>by simp[Lib.compareBytes]
 | _::_,[],_=>fun h=>by simp[Lib.compareBytes]at h
 | _::_,_::_,[]=>fun _ h=>by simp[Lib.compareBytes]at h
 | a::az,b::bs,c::cs=>fun h1 h2=>by
   rw[Qq]at*;have ih:=cb_tr az bs cs;simp only[UInt8.lt_iff_toNat_lt]at*
   repeat' split at h1
   all_goals repeat' split at h2
   all_goals repeat' split
   all_goals first | omega | exact ih h1 h2 | skip
theorem Qp:∀(a b:List UInt8),Lib.compareBytes a b=0↔a=b
 | [],[]=>odc
 | [],_::_=>by simp[Lib.compareBytes]
 | _::_,[]=>by simp[Lib.compareBytes]
 | a::az,b::bs=>by
   rw[Qq];have:=Qp az bs;by_cases h1:a<b
   ·have h2:a≠b:=fun e=>by subst e;simp only[UInt8.lt_iff_toNat_lt]at h1;omega
    simp[h1,h2]
   ·by_cases h2:b<a
    ·have h3:a≠b:=fun e=>by subst e;simp only[UInt8.lt_iff_toNat_lt]at h2;omega
     simp[h1,h2,h3]
    ·have h3 : a = b := by
       apply UInt8.toNat_inj.1;simp only[UInt8.lt_iff_toNat_lt]at h1 h2;omega
     simp[h1,h2,h3,this]
theorem Mg{a b:List UInt8}:Lib.compareBytes a b<0↔0<Lib.compareBytes b a:=JJ a b
theorem cb_ge{a b:List UInt8}:0≤Lib.compareBytes a b↔Lib.compareBytes b a≤0:=by
 have:=JJ a b;constructor
 ·intro h;rcases Int.lt_or_le 0 (Lib.compareBytes b a)with h1 | h1
  ·have:=this.2 h1;omega
  ·exact h1
 ·intro h;rcases Int.lt_or_le (Lib.compareBytes a b) 0 with h1 | h1
  ·have:=this.1 h1;omega
  ·exact h1
theorem PN{a b c:List UInt8}(h:Lib.compareBytes a b≤0)(h':Lib.compareBytes b c<0):Lib.compareBytes a c<0:=by
 have h1:=cb_tr a b c h om;rcases Int.lt_or_le (Lib.compareBytes a c) 0 with h2 | h2
 ·exact h2
 ·have e:a=c:=(Qp a c).1 om;subst e;have:=JJ b a;omega
theorem U0{a b c:List UInt8}(h:Lib.compareBytes a b<0)(h':Lib.compareBytes b c≤0):Lib.compareBytes a c<0:=by
 have h1:=cb_tr a b c om h';rcases Int.lt_or_le (Lib.compareBytes a c) 0 with h2 | h2
 ·exact h2
 ·have e:a=c:=(Qp a c).1 om;subst e;have:=JJ a b;omega
theorem cb_nil(a:List UInt8):0≤Lib.compareBytes a []:=by cases a<;>simp[Lib.compareBytes]
def Qc(q:QryE)(start:List UInt8)(has:Bool):Prop:=
 if q.rev then(if has then(q.to.length=0∨Lib.compareBytes start q.to≤0)else q.to.length=0)else(if has then 0≤Lib.compareBytes start q.frm else q.frm=[])
def lastOK(q:QryE)(start:List UInt8)(has:Bool)(last:Option (List UInt8)):Prop:=
 ∀l,last=some l→has=true→if q.rev then Lib.compareBytes l start<0 else 0≤Lib.compareBytes l start
theorem follows_comes{nf : Nat}{q : QryE}{x : RowE}{last : Option (List UInt8)}{start : List UInt8}{has : Bool}(hl : lastOK q start has last):
   XR nf q x last start has=(Yw q x.row last start has&& !YY nf x.cells):=by
 unfold XR Yw;by_cases h0:x.row.length=0∨256<x.row.length
 ·rw[if_pos h0,decide_eq_true h0];simp
 ·rw[if_neg h0,decide_eq_false h0];congr 1;cases last with
  | none=>cases has<;>simp
  | some l=>
    cases has with
    | false=>simp
    | true=>
      have:=hl l rfl rfl;cases hr:q.rev
      ·rw[hr]at this;simp only[Bool.false_eq_true,if_false]at this ⊢;by_cases h1:0<Lib.compareBytes x.row l
       ·have h2 : 0 ≤ Lib.compareBytes x.row start := by
          have a1:Lib.compareBytes start l≤0:=cb_ge.1 this;have a2:Lib.compareBytes l x.row<0:=Mg.2 h1;have:=PN a1 a2;have:=Mg.1 this;omega
        simp[h1,h2]
       ·simp[h1]
      ·rw[hr]at this;simp only[if_true]at this ⊢;by_cases h1:Lib.compareBytes x.row l<0
       ·have h2:Lib.compareBytes x.row start<0:=U0 h1 om;simp[h1,h2]
       ·simp[h1]
theorem MI{nf:Nat}{q:QryE}{x:RowE}{last:Option (List UInt8)}{start:List UInt8}{has:Bool}(h:XR nf q x last start has=true):has=true→if q.rev then Lib.compareBytes x.row start<0 else 0≤Lib.compareBytes x.row start:=fun hh=>by
 unfold XR at h;simp only[Bool.and_eq_true]at h;have:=h.1.2;subst hh;cases hr:q.rev<;>rw[hr]at this<;>simpa using this
theorem Jm{nf:Nat}{q:QryE}{x:RowE}{last:Option (List UInt8)}{start:List UInt8}{has:Bool}(hs:Qc q start has)(h:XR nf q x last start has=true):WE q x.row= !YX q x.row:=by
 have hc:=MI h;unfold Qc at hs;unfold WE YX;cases hr:q.rev
 ·rw[hr]at hs hc;simp only[Bool.false_eq_true,if_false]at hs hc;have h1:0≤Lib.compareBytes x.row q.frm:=by
    cases has with
    | false=>simp only[Bool.false_eq_true,if_false]at hs;rw[hs];exact cb_nil _
    | true=>
      simp only[if_true]at hs;have a:=cb_ge.1 (hc rfl);have b:=cb_ge.1 hs
      exact cb_ge.2 (cb_tr _ _ _ b a)
  by_cases h2:q.to.length=0
  ·simp[h1,h2]
  ·by_cases h3:0≤Lib.compareBytes x.row q.to
   ·have:¬Lib.compareBytes x.row q.to<0:=om;simp[h1,h2,h3,this];omega
   ·have:Lib.compareBytes x.row q.to<0:=om;simp[h1,h2,h3,this]
 ·rw[hr]at hs hc;simp only[if_true]at hs hc;have h1:q.to.length=0∨Lib.compareBytes x.row q.to<0:=by
    cases has with
    | false=>simp only[Bool.false_eq_true,if_false]at hs;exact .inl hs
    | true=>
      simp only[if_true]at hs;rcases hs with h | h
      ·exact .inl h
      ·exact .inr (U0 (hc rfl) h)
  by_cases h2:Lib.compareBytes x.row q.frm<0
  ·have:¬0≤Lib.compareBytes x.row q.frm:=om;simp[h2,this]
  ·have:0≤Lib.compareBytes x.row q.frm:=om;rcases h1 with h | h<;>simp[h2,this,h]
theorem Pn{nf : Nat}{q : QryE}{t : Option Tst}{tk : List UInt8 → List UInt8}{start : List UInt8}{has : Bool}{err : Int}(hs : Qc q start has): ∀ (l : List RowE) (m : Nat) (last : Option (List UInt8)) (acc : List RowE), lastOK q start has last →
   MF nf q t tk start has err m last acc l=runG nf q t tk start has err m last acc l
 | [],_,_,_,_=>rfl
 | x::l,m,last,acc,hl=>by
   unfold MF runG;have e1:=follows_comes (nf:=nf) (x:=x) hl;cases hc:XR nf q x last start has with
   | false=>
     rw[hc]at e1;rw[if_pos rfl];by_cases h1:Yw q x.row last start has=false
     ·rw[if_pos h1]
     ·have h1:Yw q x.row last start has=true:=by simpa using h1
      rw[h1]at e1;have h2:YY nf x.cells=true:=by simpa using e1.symm
      rw[h1,h2];simp
   | true=>
     rw[hc]at e1;have h1:Yw q x.row last start has=true∧YY nf x.cells=false:=by simpa using e1.symm
     have h2:=Jm hs hc;have hl2:lastOK q start has (some x.row):=fun l hl hh=>by cases hl;exact MI hc hh
     rw[h1.1,h1.2,h2];simp only[Bool.true_eq_false,if_false,Bool.false_eq_true];cases ha:YX q x.row with
     | false=>simp
     | true=>
       simp only[Bool.true_eq_false,if_false,Bool.not_true,Bool.false_eq_true];rw[Pn hs l _ _ acc hl2,Pn hs l _ _ _ hl2]
end Go.Rt
set_option maxRecDepth 10000
namespace Go.Proofs.YtkmkbndcekklmaaGreatDoor
open Go Go.Sx Go.Rt Go.Proofs
def Zv(q:QryE):List UInt8×Bool×Int:=
 if (Zz q).2.2≠0 then([],false,(Zz q).2.2)
 else if 0<(Zz q).1 then(if q.rev then(Zz q).2.1 else(Zz q).2.1++[0],true,0)
 else if q.rev then(q.to,decide (0<q.to.length),0)else(q.frm,decide (0<q.frm.length),0)
def atE(q:QryE)(clock:Int):Int×Int:=
 if clock<1∨1099511627776<clock then(0,1)
 else if (Zz q).2.2≠0 then(0,(Zz q).2.2)
 else if 0<(Zz q).1 then((Zz q).1,0)
 else if q.time≠0 then(q.time,0)else(clock,0)
def Z6(fs:List Fml)(q:QryE):Option Tst:=if q.whr.length=0 then none else match Wu fs q.whr with | .ok x=>some x.1 | .error _=>none
def runE(fs:List Fml)(q:QryE)(clock:Int)(src:Option (List RowE×Int)):PgE×Nat×Int:=
 if qcE fs q≠0 then(pgZ,0,qcE fs q)
 else if (atE q clock).2≠0 then(pgZ,0,1)
 else match src with
   | none=>(pgZ,0,1)
   | some s=>runG fs.length q (Z6 fs q) (tokB q (atE q clock).1) (Zv q).1 (Zv q).2.1 s.2 0 none [] s.1
structure RdOK(q:QryE)(r:Int×List UInt8×Int):Prop where
 t0:0≤r.1
 t1:r.1≤1099511627776
 len:r.2.1.length≤256
 row:0<r.1→YX q r.2.1=true∧r.2.1.length≠0
 none:r.1=0→r.2.1=[]
theorem Kz(q:QryE):RdOK q (Zz q):=by
 have hbm:=NM (rfQ q.token).1 (ruB (rfQ q.token).1 0).2.1 256;have h0:∀e:Int,RdOK q (0,[],e):=fun e=>by constructor<;>simp
 unfold Zz;by_cases h1:q.token.length=0
 ·rw[if_pos h1];exact h0 _
 rw[if_neg h1];by_cases h2:(rfQ q.token).2.2≠0
 ·rw[if_pos h2];exact h0 _
 rw[if_neg h2];by_cases h3:(ruB (rfQ q.token).1 0).2.2≠0∨(ruB (rfQ q.token).1 0).1<1∨1099511627776<(ruB (rfQ q.token).1 0).1∨(q.time≠0∧(ruB (rfQ q.token).1 0).1≠u64 q.time)
 ·rw[if_pos h3];exact h0 _
 rw[if_neg h3];by_cases h4:(rbB (rfQ q.token).1 (ruB (rfQ q.token).1 0).2.1 256).2.2≠0∨(rbB (rfQ q.token).1 (ruB (rfQ q.token).1 0).2.1 256).1.length=0∨YX q (rbB (rfQ q.token).1 (ruB (rfQ q.token).1 0).2.1 256).1=false∨(tokB q (ruB (rfQ q.token).1 0).1 (rbB (rfQ q.token).1 (ruB (rfQ q.token).1 0).2.1 256).1==q.token)=false
 ·rw[if_pos h4];exact h0 _
 rw[if_neg h4];refine⟨osi,by simp only;omega,hbm,fun _=>⟨?_,fun h=>h4 (.inr (.inl h))⟩,fun h=>by simp only at h;omega⟩;cases h:YX q (rbB (rfQ q.token).1 (ruB (rfQ q.token).1 0).2.1 256).1
 ·exact absurd (.inr (.inr (.inl h))) h4
 ·rfl
theorem cb_snoc(a:List UInt8)(c:UInt8):Lib.compareBytes a (a++[c])<0:=by
 induction a with
 | nil=>simp[Lib.compareBytes]
 | cons b a ih=>
   show(if b<b then(-1:Int)else if b<b then 1 else Lib.compareBytes a (a++[c]))<0;rw[if_neg osi,if_neg osi];exact ih
theorem startE_ok(q:QryE)(h:(Zz q).2.2=0):Qc q (Zv q).1 (Zv q).2.1:=by
 have hR:=Kz q;unfold Zv;rw[if_neg (by simp[h])];by_cases h1:0<(Zz q).1
 ·rw[if_pos h1];have ha:=(hR.row h1).1;unfold YX at ha;simp only[Bool.and_eq_true,Bool.or_eq_true,decide_eq_true_eq]at ha;unfold Qc;cases hr:q.rev
  ·simp only[Bool.false_eq_true,if_false,if_true];have:=cb_snoc (Zz q).2.1 0;have b:=cb_ge.1 ha.1;have:=Mg.1 (PN b this);omega
  ·simp only[if_true];rcases ha.2 with h | h
   ·exact .inl h
   ·exact .inr om
 ·rw[if_neg h1];unfold Qc;cases hr:q.rev
  ·simp only[Bool.false_eq_true,if_false];by_cases h2:0<q.frm.length
   ·rw[decide_eq_true h2,if_pos rfl];have:=(Qp q.frm q.frm).2 rfl;omega
   ·rw[decide_eq_false h2,if_neg osi];exact List.length_eq_zero_iff.1 om
  ·simp only[if_true];by_cases h2:0<q.to.length
   ·rw[decide_eq_true h2,if_pos rfl];have:=(Qp q.to q.to).2 rfl;exact .inr om
   ·rw[decide_eq_false h2,if_neg osi];omega
open Tryz
def Yt(q:QryE):AV:= .tup [bys (Zv q).1,.bool (Zv q).2.1,.int .i64 (Zv q).2.2]
theorem NB50.eqs{P Q:Prop}(g:Imp P Q:=by(try simp only[go_sem,seval,hsz,hag,hmo,f1,hs,g1,g2,l1,hs1,hs2,hs3,Ze,Zx,bys,qb]);exact Imp.rf):Imp P Q:=g
set_option maxHeartbeats 3200000 in
open NB50 NY in
theorem JX(q:QryE)(hq:q.fine){H:Heap}{n:Nat}(hG:GOK 1 1 H n):Zn prog 24 [Ze q] H n (OAns H n (Yt q)):=by
 have hsz:(Ze q).sz=10:=ZT q;have hag:(Ze q).isAgg=true:=rfl;have hmo:(Ze q).memOK=true:=rfl;have hR:=Kz q;obtain⟨z,hz⟩:∃z,z=Zv q:=⟨_,rfl⟩;unfold Yt;rw[←hz];unfold Zv at hz;obtain⟨r,hr⟩:∃r,r=Zz q:=⟨_,rfl⟩;rw[←hr]at hz hR;have hs:=hsz;have g1:=hsz;have g2:=hsz;have l1:=hsz;have hs1:=hsz;have hs2:=hsz;have hs3:=hsz;have hM:=hsz;have f1:(n=n+1)=False:=osi;refine fw func24 ntmps24 results24 ?_;refine rg zs [1] ?_;refine rk zs [1,5,6] fun K V=> ?_;refine Zw (args':=[Ze q]) func59 rfl rfl rfl (KN q hq ?_) ?_ ?_
 ·exact hG.on (fun k hk=>oh) om
 rotate_left
 ·intro p H' n' hc;exact hc.pan.elim
 rw[←hr];intro rr H2 n2 hc;obtain⟨ks,hM⟩:=hc.got;obtain⟨a1,rfl,ho1⟩:=hM.own.tupI_shape;obtain⟨a,rfl,ho⟩:=ho1.aggI_shape;have hs:=fun g=>ho.strip g;have hn2:=hM.nn;have g1:(n=n2)=False:=oz;have l1:=(hM.low n om).trans (Rm _ _ _);have hlo:∀k,k<n→H2 k=H k:=fun k hk=>(hM.low k om).trans (Rk _ _ om);obtain⟨hs1,hs2,hs3⟩:=ho.sl_sz;refine nz ?_;refine kas ?_;refine bk fun K1 hK1=> ?_;refine rg zs [1,5,6,12] ?_;refine Zb ?_ ?_<;>intro hb
 ·rw[if_pos osb]at hz;refine rg zs [2,3,4] ?_;refine ar ?_;rw[hz];refine OAns.emp (RZ .nilsl) (fun k hk=> ?_) om;rw[Rk _ _ om];exact hlo k hk
 rw[if_neg osb]at hz;refine rg zs [1,5,16] ?_;refine Zb ?_ ?_<;>intro hb
 ·have h2:0<r.1∧q.rev=false:=by simp at hb;exact⟨hb.1,by simpa using hb.2⟩
  rw[if_pos h2.1,h2.2]at hz;rcases Own.bytes ho with⟨_,h9,_⟩ | ⟨k0,v0,els,rfl,rfl,hk,hE⟩
  ·exact absurd (by rw[h9];rfl) (hR.row h2.1).2
  have hkl:=hM.lo k0 osi;have g4:(k0=n2)=False:=oz;refine awp_trim k0 r.2.1.length (v:=v0) (e:=1) (els:=els) (by simp only[Rl,g4];exact hk) ?_;rw[hE];have g5:(n2=k0)=False:=oz;refine Zg zs [2,3,4] fun K V=> ?_
  try simp only[go_sem,seval,hsz,hag,hmo,f1,hs,g1,g2,l1,hs1,hs2,hs3,Ze,Zx,bys,qb,g4,g5,Yr]
  repeat (first | (refine And.intro ?_ ?_;· first | exact⟨Nat.le_refl _,.inr trivial,by have:=hR.len;omega,by have:=hR.len;omega⟩) | refine peel ?_)
  refine kas ?_;refine ar ?_;rw[hz];exact OAns.one (RZ (.osl (els:=(r.2.1++[0]).map Zd) (by rw[Rm,qj];rfl) osi (by rw[List.take_of_length_le osi];exact RD _ (WW _)))) om (fun k hk=>by rw[Rk _ _ om,Rk _ _ om];exact hlo k hk) om
 have h2:¬(0<r.1∧q.rev=false):=by rintro⟨a1,a2⟩;simp[a1,a2]at hb
 refine rg zs [1,5,29] ?_;refine Zb ?_ ?_<;>intro hb
 ·have h3:0<r.1:=osb;have h4:q.rev=true:=by cases e:q.rev;exact absurd ⟨h3,e⟩ h2;rfl
  rw[if_pos h3,h4]at hz;refine rg zs [2,3,4] ?_;refine ar ?_;rw[hz];exact⟨_,ks,rfl,RZ (ho.frame fun k hk=>Rk _ _ (by have:=hM.lo k hk;omega)),hM.nd,fun k hk=>by have:=hM.lo k hk;omega,fun k hk=>by rw[Rk _ _ om];exact hlo k hk,om⟩
 rw[if_neg osb]at hz;refine rg zs [1,35] ?_;refine Zb ?_ ?_<;>intro hb
 ·rw[if_pos hb]at hz;exact kai
 rw[if_neg (by rw[hb];simp)]at hz;refine kay ?_;exact kai
theorem NB60.eqs{P Q:Prop}(g:Imp P Q:=by(try simp only[go_sem,seval,hsz,hag,hmo,f1,Ze,Zx,bys,qb]);exact Imp.rf):Imp P Q:=g
open NB60 NY in
theorem c_query_At(q:QryE)(hq:q.fine)(clock:Int){H:Heap}{n:Nat}(hG:GOK 1 1 H n):Ret prog 36 [Ze q,.int .i64 clock] H n (.tup [.int .i64 (atE q clock).1,.int .i64 (atE q clock).2]) H n:=by
 have hsz:(Ze q).sz=10:=ZT q;have hag:(Ze q).isAgg=true:=rfl;have hmo:(Ze q).memOK=true:=rfl;obtain⟨z,hz⟩:∃z,z=atE q clock:=⟨_,rfl⟩;rw[←hz];unfold atE at hz;have f1:(n=n+1)=False:=osi;refine Ret.fin ?_;refine fw func36 ntmps36 results36 ?_;refine rg zs [1,2] ?_;refine Za fun K1 hK1=> ?_;refine rg zs [1,2,13] ?_;refine Zb ?_ ?_<;>intro hb
 ·rw[if_pos (by simp at hb;omega)]at hz;exact kah
 rw[if_neg (by simp at hb;omega)]at hz;refine kay ?_;refine rk zs [1,2,6,7] fun K V=> ?_;refine ck func59 ((Qw q hq (hG.on (fun k hk=>oh) om))) ?_;refine kas ?_;refine bk fun K2 hK2=> ?_;refine rg zs [1,2,6,7,19] ?_;refine Zb ?_ ?_<;>intro hb
 ·rw[if_pos osb]at hz;exact kah
 rw[if_neg osb]at hz;refine rg zs [1,2,6,23] ?_;refine Zb ?_ ?_<;>intro hb
 ·rw[if_pos osb]at hz;exact kah
 rw[if_neg osb]at hz;refine rg zs [1,2,29] ?_;refine Zb ?_ ?_<;>intro hb
 ·rw[if_pos osb]at hz;exact kah
 rw[if_neg osb]at hz;refine kaQ ?_;exact kah
theorem XV(s b:List UInt8):s.isPrefixOf b=(decide (s.length≤b.length)&&(b.take s.length==s)):=by
 rw[Bool.eq_iff_iff];simp only[Bool.and_eq_true,decide_eq_true_eq,beq_iff_eq,List.isPrefixOf_iff_prefix];constructor
 ·intro h;exact⟨h.length_le,(List.prefix_iff_eq_take.1 h).symm⟩
 ·rintro⟨_,h⟩;exact List.prefix_iff_eq_take.2 h.symm
theorem NB61.eqs{P Q:Prop}(g:Imp P Q:=by(try simp only[go_sem,seval,qb,Option.getD_some,Option.getD_none,qd,Int.toNat_zero,List.drop_zero,←List.map_take]);exact Imp.rf):Imp P Q:=g
open NB61 NY in
theorem Ut(b s:List UInt8)(H:Heap)(n:Nat):Ret prog 82 [bys b,bys s] H n (.bool (s.isPrefixOf b)) H n:=by
 rw[XV];refine fw func82 ntmps82 results82 ?_;refine kb1 ?_;refine rk zs [4] fun K V=> ?_;refine cg func96 (fun _=>(UI (b.take s.length) s _ _)) ?_;refine kas ?_;refine ar ?_;rw[show decide ((s.length:Int)≤(b.length:Int))=decide (s.length≤b.length)from decide_eq_decide.2 om];cases decide (s.length≤b.length)<;>rfl
open N0 in
theorem P6(s:List UInt8)(c:Int)(H:Heap)(n:Nat):Ret prog 163 [.str s,.int .i64 c] H n (.bool (byS s c)) H n:=by
 unfold byS;refine fw func163 ntmps163 results163 ?_;refine kb1 ?_;refine Za fun K1 hK1=> ?_;refine rg zs [1,5] ?_;refine kbM ?_;refine rg zs [1,5,6] ?_;refine Zb ?_ ?_<;>intro hb
 ·have p1:s=[61]:=osb;refine kag ?_;rw[if_pos p1];done
 have p1:¬s=[61]:=osb;refine rg zs [1,5,10] ?_;refine Zb ?_ ?_<;>intro hb
 ·have p2:s=[33,61]:=osb;refine kag ?_;rw[if_neg p1,if_pos p2];done
 have p2:¬s=[33,61]:=osb;refine rg zs [1,5,14] ?_;refine Zb ?_ ?_<;>intro hb
 ·have p3:s=[60]:=osb;refine kag ?_;rw[if_neg p1,if_neg p2,if_pos p3];done
 have p3:¬s=[60]:=osb;refine rg zs [1,5,18] ?_;refine Zb ?_ ?_<;>intro hb
 ·have p4:s=[60,61]:=osb;refine kag ?_;rw[if_neg p1,if_neg p2,if_neg p3,if_pos p4];done
 have p4:¬s=[60,61]:=osb;refine rg zs [1,22] ?_;refine Zb ?_ ?_<;>intro hb
 ·have p5:s=[62]:=osb;refine kag ?_;rw[if_neg p1,if_neg p2,if_neg p3,if_neg p4,if_pos p5];done
 have p5:¬s=[62]:=osb;refine kay ?_;refine kag ?_;rw[if_neg p1,if_neg p2,if_neg p3,if_neg p4,if_neg p5];done
def TstC (t:Tst):Prop:=∃f caps,∃fn:Func,Yn t= .fn (.func f) [] caps∧prog.funcs[f]? =some fn∧fn.body.isSome=true∧(fn.name== "runtime.NumGoroutine")=false∧∀(c:CelE) (H:Heap) (n:Nat),Ret prog f ([Zj c]++caps) H n (.bool (t.holds c)) H n
theorem NB62.eqs{P Q:Prop}(g:Imp P Q:=by(try simp only[go_sem,seval,hsz,hag,hmo]);exact Imp.rf):Imp P Q:=g
open NB62 NY in
theorem c_tst_or(a b:Tst)(ha:TstC a)(hb:TstC b)(c:CelE)(H:Heap)(n:Nat):Ret prog 122 [Zj c,.rp (Yn a),.rp (Yn b)] H n (.bool (a.holds c||b.holds c)) H n:=by
 obtain⟨f1,cs1,fn1,e1,hf1,hb1,hn1,hc1⟩:=ha;obtain⟨f2,cs2,fn2,e2,hf2,hb2,hn2,hc2⟩:=hb;rw[e1,e2];have hsz:(Zj c).sz=4:=Yp c;have hag:(Zj c).isAgg=true:=rfl;have hmo:(Zj c).memOK=true:=rfl;refine Ret.fin ?_;refine fw func122 ntmps122 results122 ?_;refine rg zs [1,2,3] ?_;refine rk zs [4] fun K V=> ?_;refine Zu hf1 hb1 hn1 rfl (hc1 c _ _) ?_;refine nz ?_;refine YM hf2 hb2 hn2 rfl (fun _=>hc2 c _ _) ?_;refine nz ?_;refine kas ?_;exact kcw
open NB62 NY in
theorem c_tst_and(a b:Tst)(ha:TstC a)(hb:TstC b)(c:CelE)(H:Heap)(n:Nat):Ret prog 143 [Zj c,.rp (Yn a),.rp (Yn b)] H n (.bool (a.holds c&&b.holds c)) H n:=by
 obtain⟨f1,cs1,fn1,e1,hf1,hb1,hn1,hc1⟩:=ha;obtain⟨f2,cs2,fn2,e2,hf2,hb2,hn2,hc2⟩:=hb;rw[e1,e2];have hsz:(Zj c).sz=4:=Yp c;have hag:(Zj c).isAgg=true:=rfl;have hmo:(Zj c).memOK=true:=rfl;refine Ret.fin ?_;refine fw func143 ntmps143 results143 ?_;refine rg zs [1,2,3] ?_;refine rk zs [4] fun K V=> ?_;refine Zu hf1 hb1 hn1 rfl (hc1 c _ _) ?_;refine nz ?_;refine YM hf2 hb2 hn2 rfl (fun _=>hc2 c _ _) ?_;refine nz ?_;refine kas ?_;exact kcw
open NB62 NY in
theorem c_tst_not(a:Tst)(ha:TstC a)(c:CelE)(H:Heap)(n:Nat):Ret prog 154 [Zj c,.rp (Yn a)] H n (.bool (!a.holds c)) H n:=by
 obtain⟨f1,cs1,fn1,e1,hf1,hb1,hn1,hc1⟩:=ha;rw[e1];have hsz:(Zj c).sz=4:=Yp c;have hag:(Zj c).isAgg=true:=rfl;have hmo:(Zj c).memOK=true:=rfl;refine Ret.fin ?_;refine fw func154 ntmps154 results154 ?_;refine rg zs [1,2] ?_;refine rk zs [3] fun K V=> ?_;refine Zu hf1 hb1 hn1 rfl (hc1 c _ _) ?_;refine nz ?_;refine kas ?_;refine ar ?_;exact kcj
theorem NB63.eqs{P Q:Prop}(g:Imp P Q:=by(try simp only[go_sem,seval,hsz,hag,hmo,Zj]);exact Imp.rf):Imp P Q:=g
open NB63 NY in
theorem c_tst_fam(m:Int)(s:List UInt8)(c:CelE)(H:Heap)(n:Nat):Ret prog 160 [Zj c,.rp (.int .i64 m),.rp (.str s)] H n (.bool ((c.fam==m)==(s==[61]))) H n:=by
 have hsz:(Zj c).sz=4:=Yp c;have hag:(Zj c).isAgg=true:=rfl;have hmo:(Zj c).memOK=true:=rfl;refine Ret.fin ?_;refine fw func160 ntmps160 results160 ?_;refine rg zs [1,2,3] ?_;refine kag ?_;exact kcj
open NB63 NY in
theorem c_tst_ts(s:List UInt8)(m:Nat)(c:CelE)(H:Heap)(n:Nat):Ret prog 164 [Zj c,.rp (.str s),.rp (.int .i64 m)] H n (.bool (byS s (cmpI c.ts m))) H n:=by
 have hsz:(Zj c).sz=4:=Yp c;have hag:(Zj c).isAgg=true:=rfl;have hmo:(Zj c).memOK=true:=rfl;refine Ret.fin ?_;refine fw func164 ntmps164 results164 ?_;refine rg zs [1,2,3] ?_;refine dx zs [4] [.q,.q,.q,.q,.c,.c,.q] [0,1,2,3,4,5,6] [0,1,2,3,4,5,6] fun K V=> ?_;refine cq func165 (fun _ n=>(c_cmp_Compare c.ts m _ _)) ?_;refine cq func163 (fun _ n=>(P6 s (cmpI c.ts m) _ _)) ?_;refine kas ?_;refine ar ?_;exact kcj
open NB63 NY in
theorem c_tst_cmp(qual:Bool)(s x:List UInt8)(c:CelE)(H:Heap)(n:Nat):Ret prog 162 [Zj c,.rp (.bool qual),.rp (.str s),.rp (bys x)] H n (.bool ((Tst.cmp qual s x).holds c)) H n:=by
 have hsz:(Zj c).sz=4:=Yp c;have hag:(Zj c).isAgg=true:=rfl;have hmo:(Zj c).memOK=true:=rfl;unfold Tst.holds;refine Ret.fin ?_;refine fw func162 ntmps162 results162 ?_;refine rg zs [1,2,3,4] ?_;refine rg zs [1,2,3,4,6] ?_;refine ZL [2,3,6] (fun T' H' n'=>T'=tl [(2,.rp (.str s)),(3,.rp (bys x)),(6,bys (if qual then c.qual else c.value))]∧H'=H.put n (some (.arr 0 4 [Zj c]))∧n'=n+1) ?_ ?_
 ·refine rg zs [2,3,4,6,9] ?_;refine Zb ?_ ?_<;>intro hb
  ·refine rg1 zs [2,3,6] ?_;exact kcH
  refine ak ?_;exact kcH
 rintro T1 H1 n1 ⟨rfl,rfl,rfl⟩;generalize (if qual then c.qual else c.value)=v;refine Za fun K1 hK1=> ?_;refine rg zs [2,3,6,13] ?_;refine Zb ?_ ?_<;>intro hb
 ·have p1:s=[94]:=osb;refine rc zs [5] func82 ((Ut v x _ _)) ?_;exact kcl
 have p1:¬s=[94]:=osb;refine kay ?_;refine dx zs [5] [.q,.m,.q,.c,.c,.q] [0,1,2,3,4,5] [0,1,2,3,4,5] fun K V=> ?_;refine cq func54 (fun _ n=>(Yk v x _ _)) ?_;refine cq func163 (fun _ n=>(P6 s (Lib.compareBytes v x) _ _)) ?_;refine kas ?_;exact kcl
theorem c_tst:∀t:Tst,TstC t
 | .or a b=>⟨_,_,_,rfl,func122,rfl,rfl,c_tst_or a b (c_tst a) (c_tst b)⟩
 | .and a b=>⟨_,_,_,rfl,func143,rfl,rfl,c_tst_and a b (c_tst a) (c_tst b)⟩
 | .not a=>⟨_,_,_,rfl,func154,rfl,rfl,c_tst_not a (c_tst a)⟩
 | .fam m s=>⟨_,_,_,rfl,func160,rfl,rfl,c_tst_fam m s⟩
 | .cmp q s x=>⟨_,_,_,rfl,func162,rfl,rfl,c_tst_cmp q s x⟩
 | .ts s m=>⟨_,_,_,rfl,func164,rfl,rfl,c_tst_ts s m⟩
def Ki:Option (List UInt8)→AV
 | none=> .nilsl
 | some l=>bys l
theorem NB70.eqs{P Q:Prop}(g:Imp P Q:=by(try simp only[go_sem,seval,hsz,hag,hmo,Ze,Zx,bys,qb]);exact Imp.rf):Imp P Q:=g
open NB70 NY in
theorem Mq(q:QryE)(row start:List UInt8)(has:Bool)(H:Heap)(n:Nat):Ret prog 52 [Ze q,bys row,.nilsl,bys start,.bool has] H n (.bool (Yw q row none start has)) H n:=by
 have hsz:(Ze q).sz=10:=ZT q;have hag:(Ze q).isAgg=true:=rfl;have hmo:(Ze q).memOK=true:=rfl;obtain⟨z,hz⟩:∃z,z=Yw q row none start has:=⟨_,rfl⟩;rw[←hz];unfold Yw at hz;refine Ret.fin ?_;refine fw func52 ntmps52 results52 ?_;refine rg zs [1,2,3,4,5] ?_;refine Za fun K1 hK1=> ?_;refine rg zs [1,2,3,4,5,18] ?_;refine Zb ?_ ?_<;>intro hb
 ·rw[if_pos (by simp at hb;grind)]at hz;refine rg zs [10] ?_;refine kaK ?_;rw[hz];done
 rw[if_neg (by simp at hb;grind)]at hz;refine kay ?_;refine bk fun K2 hK2=> ?_;refine rg zs [1,2,3,4,5,19] ?_;refine Zb ?_ ?_<;>intro hb
 ·exact kcQ
 refine rg zs [1,2,3,4,5,30] ?_;refine Zb ?_ ?_<;>intro hb
 ·exact kcQ
 refine rg zs [1,3,4,37] ?_;refine Zb ?_ ?_<;>intro hb
 ·have p1:has=true∧q.rev=true:=by cases has<;>simp_all
  refine rc zs [10] func54 ((Yk row start _ _)) ?_;refine kaK ?_;rw[hz];simp[p1.1,p1.2];done
 have p1:¬(has=true∧q.rev=true):=by rintro⟨a,b⟩;rw[a,b]at hb;cases hb
 refine rg zs [1,3,47] ?_;refine Zb ?_ ?_<;>intro hb
 ·have p2:has=true:=hb;refine rc zs [10] func54 ((Yk row start _ _)) ?_;refine kaK ?_;rw[hz];cases hh:q.rev<;>simp_all
 have p2:has=false:=hb;refine kaQ ?_;refine rg zs [10] ?_;refine kaK ?_;rw[hz];cases hh:q.rev<;>simp_all
theorem NB71.eqs{P Q:Prop}(g:Imp P Q:=by(try simp only[go_sem,seval,hsz,hag,hmo,Ze,Zx,bys,qb,List.map_cons]);exact Imp.rf):Imp P Q:=g
open NB71 NY in
theorem Mo(q:QryE)(row:List UInt8)(x:UInt8)(l start:List UInt8)(has:Bool)(H:Heap)(n:Nat):Ret prog 52 [Ze q,bys row,bys (x::l),bys start,.bool has] H n (.bool (Yw q row (some (x::l)) start has)) H n:=by
 have hsz:(Ze q).sz=10:=ZT q;have hag:(Ze q).isAgg=true:=rfl;have hmo:(Ze q).memOK=true:=rfl;obtain⟨z,hz⟩:∃z,z=Yw q row (some (x::l)) start has:=⟨_,rfl⟩;rw[←hz];unfold Yw at hz;refine Ret.fin ?_;refine fw func52 ntmps52 results52 ?_;refine rg zs [1,2,3,4,5] ?_;refine Za fun K1 hK1=> ?_;refine rg zs [1,2,3,4,5,18] ?_;refine Zb ?_ ?_<;>intro hb
 ·rw[if_pos (by simp at hb;grind)]at hz;refine rg zs [10] ?_;refine kaK ?_;rw[hz];done
 rw[if_neg (by simp at hb;grind)]at hz;refine kay ?_;refine bk fun K2 hK2=> ?_;refine rg zs [1,2,3,4,5,19] ?_;refine Zb ?_ ?_<;>intro hb
 ·have p1:q.rev=true:=osb;refine rc zs [10] func54 ((Yk row (x::l) _ _)) ?_;refine kaK ?_;rw[hz];simp[p1];done
 have p1:q.rev=false:=osb;refine rg zs [1,2,3,4,5,30] ?_;refine Zb ?_ ?_<;>intro hb
 ·refine rc zs [10] func54 ((Yk row (x::l) _ _)) ?_;refine kaK ?_;rw[hz];simp[p1];done
 exact kcQ
theorem M6(q:QryE)(row:List UInt8)(last:Option (List UInt8))(hl:∀l,last=some l→l≠[])(start:List UInt8)(has:Bool)(H:Heap)(n:Nat):Ret prog 52 [Ze q,bys row,Ki last,bys start,.bool has] H n (.bool (Yw q row last start has)) H n:=by
 cases last with
 | none=>exact Mq q row start has H n
 | some l=>
   cases l with
   | nil=>exact absurd rfl (hl [] rfl)
   | cons x l=>exact Mo q row x l start has H n
def Un:Option Tst→AV
 | none=> .nilf
 | some t=>Yn t
theorem NT(t:Tst):∃f a b,Yn t= .fn f a b:=by cases t<;>exact⟨_,_,_,rfl⟩
theorem Um(t:Option Tst)(g:Bool):strip g (Un t)=Un t:=by
 cases t with
 | none=>rfl
 | some t=>obtain⟨f,a,b,e⟩:=NT t;show strip g (Yn t)=Yn t;rw[e];rfl
theorem optAV_neq(t:Option Tst)(ty:TypeId):qBin prog ty .neq (Un t) .nilf=some (Mw prog ty=true,.bool t.isSome):=by
 cases t with
 | none=>rfl
 | some t=>obtain⟨f,a,b,e⟩:=NT t;show qBin prog ty .neq (Yn t) .nilf=_;rw[e];rfl
theorem optAV_call{t:Option Tst}{g:Bool}(c:CelE){H:Heap}{n:Nat}{k kp:AV→Heap→Nat→Prop}(hg:g=true→t.isSome=true)(hk:k (.opt g (.bool (UA t c))) H n):PR prog g (Un t) [Zj c] H n k kp:=by
 refine⟨fun h=> ?_,fun h=>⟨.bool (UA t c),h▸hk⟩⟩;subst h;cases t with
 | none=>cases hg rfl
 | some t=>
   obtain⟨f1,cs1,fn1,e1,hf1,hb1,hn1,hc1⟩:=c_tst t;show Vr prog (Yn t) _ _ _ _ _;rw[e1];exact Zu hf1 hb1 hn1 rfl (hc1 c _ _) hk
theorem inFams_go{l:List Int}{f:Int}{j:Nat}(hj:j<l.length)(hf:l.getD j default=f):Vu l f=true:=by
 unfold Vu;have:f∈l:=by rw[←hf];simp[List.getD,List.getElem?_eq_getElem hj]
 rw[Bool.or_eq_true];exact .inr (by simpa using this)
theorem inFams_no{l:List Int}{f:Int}(hl:l≠[])(h:∀i,i<l.length→l.getD i default≠f):Vu l f=false:=by
 unfold Vu;rw[Bool.or_eq_false_iff];refine⟨by cases l;exact absurd rfl hl;rfl,?_⟩;cases hc:l.contains f with
 | false=>rfl
 | true=>
   rw[List.contains_iff_mem]at hc;obtain⟨i,hi,he⟩:=List.mem_iff_getElem.1 hc;exact absurd (by simpa [List.getD,List.getElem?_eq_getElem hi]using he) (h i hi)
structure ChS(q:QryE)(t:Option Tst)(cells:List CelE)(H:Heap)(n i:Nat)(ver:Nat)(els:List AV)(ks:List Nat)(H':Heap)(n':Nat):Prop where
 hq:H' n=some (.arr 0 10 [Ze q])
 hl:H' (n+1)=some (.arr ver 4 els)
 hp:Pile (n+2) els ((ZI q t (cells.take i)).map Zj) ks H' n'
 low:∀k,k<n→H' k=H k
 lt:n+2≤n'
 le:els.length≤i
theorem own_cel{H:Heap}{a b:AV}{ks js:List Nat}(c:CelE)(h1:Own H a (bys c.qual) ks)(h2:Own H b (bys c.value) js):Own H (.agg [.int .i64 c.fam,a,.int .i64 c.ts,b]) (Zj c) (ks++js):=by
 have:=Own.agg (.cons (.nk (a:= .int .i64 c.fam) trivial) (.cons h1 (.cons (.nk (a:= .int .i64 c.ts) trivial) (.cons h2 .nil))));show Own H _ (.agg [.int .i64 c.fam,bys c.qual,.int .i64 c.ts,bys c.value]) _;simpa using this
theorem MJ(q:QryE)(t:Option Tst)(l:List CelE){i:Nat}(h:i<l.length):ZI q t (l.take (i+1))=ZI q t (l.take i)++(if Y8 q t (l.getD i default)then[l.getD i default]else[]):=by
 unfold ZI;rw[UN l h,List.filter_append];congr 1;simp only[List.filter_cons,List.filter_nil]
theorem ChS.skip{q:QryE}{t:Option Tst}{cells:List CelE}{H:Heap}{n i ver:Nat}{els:List AV}{ks:List Nat}{H1:Heap}{n1:Nat}(h:ChS q t cells H n i ver els ks H1 n1){x:CelE}(hsn:ZI q t (cells.take (i+1))=ZI q t (cells.take i)++(if Y8 q t x then[x]else[]))(hno:Y8 q t x=false){H2:Heap}{n2:Nat}(hH:∀k,k<n1→H2 k=H1 k)(hn:n1≤n2):ChS q t cells H n (i+1) ver els ks H2 n2 where
 hq:=(hH _ (by have:=h.lt;omega)).trans h.hq
 hl:=(hH _ (by have:=h.lt;omega)).trans h.hl
 hp:=by rw[hsn,hno];simp only[Bool.false_eq_true,if_false,List.append_nil];exact h.hp.on (fun k _ hk=>hH k hk) hn
 low:=fun k hk=>(hH k (by have:=h.lt;omega)).trans (h.low k hk)
 lt:=by have:=h.lt;omega
 le:=by have:=h.le;omega
theorem ChS.add{q : QryE}{t : Option Tst}{cells : List CelE}{H : Heap}{n i ver : Nat}{els : List AV}{ks js : List Nat}{H1 : Heap}{n1 : Nat}(h : ChS q t cells H n i ver els ks H1 n1){x : CelE}(hsn : ZI q t (cells.take (i + 1)) = ZI q t (cells.take i) ++ (if Y8 q t x then [x] else []))(hno : Y8 q t x = true){H2 : Heap}{n2 : Nat}{a : AV}
   (hH:∀k,k<n1→k≠n+1→H2 k=H1 k) (hn:n1≤n2) (hl:H2 (n+1)=some (.arr (ver+1) 4 (els++[a]))) (ho:Own H2 a (Zj x) js) (hd:js.Nodup) (hj:∀k∈js,n1≤k∧k<n2):ChS q t cells H n (i+1) (ver+1) (els++[a]) (ks++js) H2 n2 where
 hq:=(hH _ (by have:=h.lt;omega) om).trans h.hq
 hl:=hl
 hp:=by rw[hsn,hno,qj];simp only[if_true];exact h.hp.add (fun k h1 hk=>hH k hk om) ho hd hj h.lt hn
 low:=fun k hk=>(hH k (by have:=h.lt;omega) om).trans (h.low k hk)
 lt:=by have:=h.lt;omega
 le:=by have:=h.le;rw[qe];simp;omega
theorem NB80.eqs{P Q:Prop}(g:Imp P Q:=by(try simp only[go_sem,seval,hsz,hag,hmo,hcs,hca,hcm,f1,qb,Um,optAV_neq,hQ,hL,hnth,hnf,g1,g2,g3,hx,hs,hs2,l1,l2,l3,z1,z3,z4,z6,qd,Zj,Ze,bys,Zx]);exact Imp.rf):Imp P Q:=g
theorem NB80.sd{P:Prop}(g:P:=by first | exact⟨rfl,by(simp[AV.sz,AV.szs,AV.memOK,z1,z3,z4,z6];first | done | fail)⟩ | exact⟨Nat.le_refl _,.inr trivial,by have:=hC.le;omega,by have:=hC.le;omega⟩ | fail):P:=g
set_option maxHeartbeats 3200000 in
open NB80 NZ in
theorem NV(q : QryE)(hqf : q.fams.length ≤ 1048576)(t : Option Tst)(cells : List CelE)(hcl : cells.length ≤ 1048576)(hcb : ∀ c ∈ cells, c.qual.length ≤ 1099511627776 ∧ c.value.length ≤ 1099511627776)(H : Heap)(n : Nat):
   Zn prog 55 [Ze q,Un t,.sl 4 (cells.map Zj)] H n (OAns H n (.sl 4 ((ZI q t cells).map Zj))):=by
 have hsz:(Ze q).sz=10:=ZT q;have hag:(Ze q).isAgg=true:=rfl;have hmo:(Ze q).memOK=true:=rfl;have hcs:∀c,(Zj c).sz=4:=Yp;have hca:∀c,(Zj c).isAgg=true:=fun _=>rfl;have hcm:∀c,(Zj c).memOK=true:=fun _=>rfl;have hQ:=hsz;have hL:=hsz;have hnth:=hsz;have hnf:=hsz;have g1:=hsz;have g2:=hsz;have g3:=hsz;have hx:=hsz;have hs:=hsz;have hs2:=hsz;have hA:=hsz;have l1:=hsz;have l2:=hsz;have l3:=hsz;have z1:=hsz;have z3:=hsz;have z4:=hsz;have z6:=hsz;have f1:(n=n+1)=False:=osi;refine fw func55 ntmps55 results55 ?_;refine rg zs [1,2,3] ?_;refine awp_scope ?_;refine rg zs [1,2,3,7] ?_;refine Za fun K1 hK1=> ?_;refine awp_label ?_;refine ns ?_;apply hK1;refine Za fun K2 hK2=> ?_;refine rg zs [1,3,7,12,13,14] ?_;refine Zq ?_;refine ZN 7 4 rfl ?_;refine Yl [1,3,7,12,13,14] ?_;simp only[go_sem,seval];refine Zk (fun T' H' n'=>∃(i ver:Nat) (els:List AV) (ks:List Nat),i≤cells.length∧T'=tl [(1,Un t),(3,.loc n 0 0 0 []),(7,.osl (n+1) ver 0 els.length),(12,.sl 4 (cells.map Zj)),(13,.int .i64 cells.length),(14,.int .i64 i)]∧ChS q t cells H n i ver els ks H' n') (fun T' _ _=>cells.length-iv (T' 14)) ?_ ?_
 ·exact⟨0,0,[],[],Nat.zero_le _,rfl,⟨by simp[Heap.put];rfl,Rm _ _ _,Pile.nil _ _ _,fun k hk=>oh,om,Nat.le_refl _⟩⟩
 rintro T1 H1 n1 ⟨i,ver,els,ks,hi,rfl,hC⟩;have hQ:=hC.hq;have hL:=hC.hl;have hn1:=hC.lt;refine rg zs [1,3,7,12,13,14,15] ?_;refine Za fun K3 hK3=> ?_;refine Zb ?_ ?_<;>intro hb
 ·have hlt:i<cells.length:=ott;have hnth:nth (cells.map Zj) i=Zj (cells.getD i default):=Zr Zj cells i hlt;have hsn:=MJ q t cells hlt;have hcb1:=hcb _ (Yj cells hlt);generalize cells.getD i default=x at*;have g1:(n=n1)=False:=oz;have g2:(n+1=n1)=False:=oz;have hx:IntKind.i64.wrap ((i:Int)+1)=((i+1:Nat):Int):=w1 om;have hsome:t.isSome=false→UA t x=true:=by intro h;cases t;rfl;cases h
  refine ak ?_;apply hK3;refine ZL [1,3,7,12,13,14] (fun T' H' n'=>∃ver els ks,T'=tl [(1,Un t),(3,.loc n 0 0 0 []),(7,.osl (n+1) ver 0 els.length),(12,.sl 4 (cells.map Zj)),(13,.int .i64 cells.length),(14,.int .i64 i)]∧ChS q t cells H n (i+1) ver els ks H' n') ?_ ?_
  ·refine Zq ?_;refine rg zs [1,3,7,9,12,13,14] ?_;refine Za fun K4 hK4=> ?_;refine rk zs [1,3,7,9,12,13,14,33] fun K V=> ?_;refine ck func82 ((Ut x.qual q.pre _ _)) ?_;refine optAV_call x ?_ ?_
   ·intro h9;simp at h9;exact h9.2
   refine nz ?_;apply V;clear V K;refine Zb ?_ ?_<;>intro hb
   ·have hno:Y8 q t x=false:=by unfold Y8;cases h1:q.pre.isPrefixOf x.qual<;>cases h2:UA t x<;>cases h3:t.isSome<;>simp_all
    refine ax ?_;refine ns ?_;exact⟨ver,els,ks,rfl,hC.skip hsn hno (fun k hk=>Rk _ _ om) om⟩
   have hye:Y8 q t x=Vu q.fams x.fam:=by unfold Y8;cases h1:q.pre.isPrefixOf x.qual<;>cases h2:UA t x<;>cases h3:t.isSome<;>simp_all
   refine ak ?_;apply hK4;refine ZL [1,3,7,9,12,13,14] (fun T' H' n'=>T'=tl [(1,Un t),(3,.loc n 0 0 0 []),(7,.osl (n+1) ver 0 els.length),(9,.loc n1 0 0 0 []),(12,.sl 4 (cells.map Zj)),(13,.int .i64 cells.length),(14,.int .i64 i)]∧Vu q.fams x.fam=true∧H'=H1.put n1 (some (.arr 0 4 [Zj x]))∧n'=n1+1) ?_ ?_
   ·refine rg zs [1,3,7,9,12,13,14,35,36,37] ?_;refine Zq ?_;refine Zk (fun T' H' n'=>∃j:Nat,j≤q.fams.length∧(∀m,m<j→q.fams.getD m default≠x.fam)∧(j=q.fams.length→q.fams=[])∧T'=tl [(1,Un t),(3,.loc n 0 0 0 []),(7,.osl (n+1) ver 0 els.length),(9,.loc n1 0 0 0 []),(12,.sl 4 (cells.map Zj)),(13,.int .i64 cells.length),(14,.int .i64 i),(35,Zx q.fams),(36,.int .i64 q.fams.length),(37,.int .i64 j)]∧H'=H1.put n1 (some (.arr 0 4 [Zj x]))∧n'=n1+1) (fun T' _ _=>q.fams.length-iv (T' 37)) ?_ ?_
    ·exact⟨0,Nat.zero_le _,fun m hm=>om,fun h=>List.length_eq_zero_iff.1 h.symm,rfl,rfl,rfl⟩
    rintro T1 H1 n1 ⟨j,hj,hjn,hj0,rfl,rfl,rfl⟩;refine rg zs [1,3,7,9,12,13,14,35,36,37,38] ?_;refine Za fun K5 hK5=> ?_;refine Zb ?_ ?_<;>intro hb
    ·have hjl:j<q.fams.length:=ott;have hnf:nth (q.fams.map fun x:Int=>(.int .i64 x:AV)) j= .int .i64 (q.fams.getD j default):=Zr (fun x:Int=>(.int .i64 x:AV)) q.fams j hjl;have hs:IntKind.i64.wrap ((j:Int)+1)=((j+1:Nat):Int):=w1 om;have hs2:IntKind.i64.wrap ((q.fams.length:Int)-1)=((q.fams.length-1:Nat):Int):=by rw[w64 om om];omega
     refine ak ?_;apply hK5;refine bk fun K6 hK6=> ?_;refine rg zs [1,3,7,9,10,11,12,13,14,35,36,37] ?_;refine Za fun K7 hK7=> ?_;refine rg zs [1,3,7,9,10,12,13,14,35,36,37,45] ?_;refine Zb ?_ ?_<;>intro hb
     ·have hin:Vu q.fams x.fam=true:=inFams_go hjl osb;refine ax ?_;refine ns ?_;exact hin
     have hne:q.fams.getD j default≠x.fam:=osb;refine ak ?_;apply hK7;refine rg zs [1,3,7,9,12,13,14,35,36,37,51] ?_;refine Zb ?_ ?_<;>intro hb
     ·have hno : Y8 q t x = false := by
        rw[hye];refine inFams_no (fun e=>by rw[e]at hjl;cases hjl) fun m hm=> ?_;have h9:j=q.fams.length-1:=by have h9:=hb;simp at h9;omega
        rcases Nat.lt_or_ge m j with h | h
        ·exact hjn m h
        ·rw[show m=j by omega];exact hne
      refine ax ?_;refine ns ?_;exact⟨ver,els,ks,rfl,hC.skip hsn hno (fun k hk=>Rk _ _ om) om⟩
     have h9:j≠q.fams.length-1:=by have h9:=hb;simp at h9;omega
     refine ak ?_;apply hK6;refine rg1 zs [1,3,7,9,12,13,14,35,36,37] ?_;exact⟨⟨j+1,om,fun m hm=>(by rcases Nat.lt_or_ge m j with h | h;exact hjn m h;rw[show m=j by omega];exact hne),fun h=>by omega,rfl⟩,by omega⟩
    have hin:Vu q.fams x.fam=true:=by have:q.fams=[]:=hj0 otf;rw[this];rfl
    refine ax ?_;refine ns ?_;exact hin
   rintro T2 H2 n2 ⟨rfl,hin,rfl,rfl⟩;have hyes:Y8 q t x=true:=hye.trans hin;refine dx1 zs [1,3,7,12,13,14] [.m,.q,.q,.q,.q,.w [1,2,6,7,8,9],.q,.q,.q,.q,.w [1,2,6,7],.q,.q,.w [],.q] [0,1,2,3,4,6,7,8,9,5,10,11,12,13,14] [0,1,2,3,4,9,5,6,7,8,10,11,12,13,14] fun K V=> ?_;refine cK func53 (Xa x.qual hcb1.1 _ _) ?_ ?_
   ·intro p H' n' hc;exact hc.pan.elim
   intro rr H5 n5 hc;obtain⟨js,hN⟩:=hc.got;have hs:=fun g=>hN.own.strip g;have l1:=(hN.low n1 om).trans (Rm _ _ _);have hn5:=hN.nn;obtain⟨z1,z2,z3⟩:=hN.own.sl_sz;refine nz ?_;refine cK func53 (Xa x.value hcb1.2 _ _) ?_ ?_
   ·intro p H' n' hc;exact hc.pan.elim
   intro r2 H6 n6 hc;obtain⟨js2,hN2⟩:=hc.got;have hs2:=fun g=>hN2.own.strip g;obtain⟨z4,z5,z6⟩:=hN2.own.sl_sz;have l2:=(hN2.low n1 om).trans l1;have l3:H6 (n+1)=some (.arr ver 4 els):=(hN2.low _ om).trans ((hN.low _ om).trans ((Rk _ _ om).trans hL));refine nz ?_;apply V;clear V K;refine ns ?_;refine ns ?_
   first
   | (rw [List.take_of_length_le (Nat.le_refl els.length)]
      have hn6:=hN2.nn;refine⟨ver+1,_,ks++(js++js2),by rw[qe];rfl,hC.add hsn hyes (fun k hk hne=> ?_) om (Rm _ _ _) (own_cel x (hN.own.frame fun k hk=> ?_) (hN2.own.frame fun k hk=> ?_)) (List.nodup_append.2 ⟨hN.nd,hN2.nd,fun a ha b hb e=>by have:=hN.lo a ha;have:=hN2.lo b hb;omega⟩) (fun k hk=> ?_)⟩
      ·rw[Rk _ _ hne,hN2.low k om,hN.low k om,Rk _ _ om]
      ·have:=hN.lo k hk;rw[Rk _ _ om,hN2.low k om]
      ·have:=hN2.lo k hk;rw[Rk _ _ om]
      ·rcases List.mem_append.1 hk with h | h
       ·have:=hN.lo k h;omega
       ·have:=hN2.lo k h;omega)
  rintro T9 H9 n9 ⟨ver9,els9,ks9,rfl,hC9⟩;refine rg1 zs [1,3,7,12,13,14] ?_;exact⟨⟨i+1,_,_,_,om,rfl,hC9⟩,om⟩
 have hge:i=cells.length:=otf;refine ax ?_;apply hK2;refine rg zs [6] ?_;refine ar ?_;subst hge;have hp:=hC.hp;rw[List.take_of_length_le (Nat.le_refl _)]at hp;obtain⟨o1,o2,o3⟩:=Pile.list (len:=els.length) (els:=els) (by rw[List.take_of_length_le (Nat.le_refl _)];exact hp) hL (Nat.le_refl _) om;exact⟨_,_,rfl,o1,o2,fun k hk=>by have:=o3 k hk;omega,hC.low,om⟩
def qaX(q:QryE)(f t m p k:AV):AV:= .agg [f,t,m,p,.int .i64 q.time,.int .i64 q.n,.int .i64 q.rows,.bool q.rev,.str q.whr,k]
structure QL(ks:List Nat)(H:Heap)(q:QryE)(f t m p k:AV):Prop where
 f:LSl ks H f 1 (q.frm.map Zd)
 t:LSl ks H t 1 (q.to.map Zd)
 m:LSl ks H m 1 (q.fams.map fun n=> .int .i64 n)
 p:LSl ks H p 1 (q.pre.map Zd)
 k:LSl ks H k 1 (q.token.map Zd)
section
variable {ks:List Nat}{H:Heap}{q:QryE}{f t m p k:AV}
theorem QL.on{H':Heap}(h:QL ks H q f t m p k)(hk:∀j∈ks,H' j=H j):QL ks H' q f t m p k:=⟨h.f.on hk,h.t.on hk,h.m.on hk,h.p.on hk,h.k.on hk⟩
theorem QL.frz(h:QL ks H q f t m p k):Frz H 0 (qaX q f t m p k) (Ze q):=
 .agg (.cons h.f.l.frz (.cons h.t.l.frz (.cons h.m.l.frz (.cons h.p.l.frz (.cons (.kl trivial) (.cons (.kl trivial) (.cons (.kl trivial) (.cons (.kl trivial) (.cons (.kl trivial) (.cons h.k.l.frz .nil))))))))))
theorem QL.sz(h:QL ks H q f t m p k):(qaX q f t m p k).sz=10:=by simp[qaX,AV.sz,AV.szs,h.f.sz,h.t.sz,h.m.sz,h.p.sz,h.k.sz]
theorem QL.ro(q:QryE)(H:Heap):QL [] H q (bys q.frm) (bys q.to) (Zx q.fams) (bys q.pre) (bys q.token):=⟨.ro (Z4 _ _),.ro (Z4 _ _),.ro (kl_nums _ _),.ro (Z4 _ _),.ro (Z4 _ _)⟩
theorem l_query_Check(fs:List Fml)(hfs:fs.length≤1048576)(hq:q.fine){n:Nat}(hG:GOK 1 1 H n)(h:QL ks H q f t m p k):Ret prog 34 [Zh fs,qaX q f t m p k] H n (.int .i64 (qcE fs q)) H n:=
 R9 (H0:=HQ) (VW hG) (.cons (.kl (kl_sch fs 0)) (.cons h.frz .nil)) trivial (c_query_Check fs hfs q hq (Kk hG.gek hG.get))
theorem l_query_At(hq:q.fine)(clock:Int){n:Nat}(hG:GOK 1 1 H n)(h:QL ks H q f t m p k):Ret prog 36 [qaX q f t m p k,.int .i64 clock] H n (.tup [.int .i64 (atE q clock).1,.int .i64 (atE q clock).2]) H n:=
 R9 (H0:=HQ) (VW hG) (.cons h.frz (.cons (.kl trivial) .nil)) ⟨trivial,trivial,trivial⟩ (c_query_At q hq clock (Kk hG.gek hG.get))
theorem Pf(hq:q.fine){n:Nat}(hG:GOK 1 1 H n)(h:QL ks H q f t m p k):Zn prog 24 [qaX q f t m p k] H n (OAns H n (Yt q)):=
 OAns.lend (VW hG) (.cons h.frz .nil) (JX q hq (Kk hG.gek hG.get))
theorem Uz(hq:q.fine){n:Nat}(hG:GOK 1 1 H n)(h:QL ks H q f t m p k):Ret prog 24 [qaX q f t m p k] H n (Yt q) H n:=OAns.fin (Pf hq hG h)
theorem M3(h:QL ks H q f t m p k){js:List Nat}{ra:AV}{row:List UInt8}(hr:LSl js H ra 1 (row.map Zd))(last:Option (List UInt8))(hl:∀l,last=some l→l≠[])(start:List UInt8)(has:Bool)(n:Nat):Ret prog 52 [qaX q f t m p k,ra,Ki last,bys start,.bool has] H n (.bool (Yw q row last start has)) H n:=
 Ret.lend trivial (.cons h.frz (.cons hr.l.frz (.cons (.kl (by cases last;trivial;exact Xg _ _)) (.cons (.kl (Xg _ _)) (.cons (.kl trivial) .nil))))) (M6 q row last hl start has _ _)
theorem QF{js is:List Nat}{a b:AV}{x y:List UInt8}(ha:LSl js H a 1 (x.map Zd))(hb:LSl is H b 1 (y.map Zd))(n:Nat):Ret prog 54 [a,b] H n (.int .i64 (Lib.compareBytes x y)) H n:=
 Ret.lend trivial (.cons ha.l.frz (.cons hb.l.frz .nil)) (Yk x y _ _)
theorem Pg{js:List Nat}{a:AV}{x:List UInt8}(ha:LSl js H a 1 (x.map Zd))(hx:x.length≤1099511627776)(n:Nat):Zn prog 53 [a] H n (OAns H n (bys x)):=
 OAns.lend (Jq.none H) (.cons ha.l.frz .nil) (Xa x hx _ _)
theorem kl_optAV(t:Option Tst)(n:Nat):(Un t).kl n:=by cases t;trivial;exact Xu _ _
theorem MZ(h : QL ks H q f t m p k)(hqf : q.fams.length ≤ 1048576)(tt : Option Tst){js : List Nat}{ca : AV}{cells : List CelE}(hc : LSl js H ca 4 (cells.map Zj))(hcl : cells.length ≤ 1048576)(hcb : ∀ c ∈ cells, c.qual.length ≤ 1099511627776 ∧ c.value.length ≤ 1099511627776)(n : Nat):
   Zn prog 55 [qaX q f t m p k,Un tt,ca] H n (OAns H n (.sl 4 ((ZI q tt cells).map Zj))):=
 OAns.lend (Jq.none H) (.cons h.frz (.cons (.kl (kl_optAV tt 0)) (.cons hc.l.frz .nil))) (NV q hqf tt cells hcl hcb _ _)
theorem Pe(hq:q.fine){n:Nat}(hG:GOK 1 1 H n)(h:QL ks H q f t m p k)(time:Int)(row:List UInt8)(hr:row.length≤256):Zn prog 56 [.agg [.int .i64 time,bys row],qaX q f t m p k] H n (OAns H n (bys (tokB q time row))):=
 OAns.lend (VW hG) (.cons (.kl ⟨trivial,Xg _ _,trivial⟩) (.cons h.frz .nil)) (Vy q hq time row hr (Kk hG.gek hG.get))
end
structure RnS(fs:List Fml)(qa:AV)(rows:List RowE)(err:Int)(ks kw kt lo m n0:Nat)(acc:List RowE)(ver:Nat)(els:List AV)(pk:List Nat)(vw vt:Nat)(kb:List (Nat×List UInt8))(tels:List AV)(tk:List Nat)(H0 H:Heap)(n:Nat):Prop where
 hs:H n0=some (.arr 0 1 [Zh fs])
 hq:H (n0+1)=some (.arr 0 10 [qa])
 hz:H (n0+2)=some (.arr 0 3 [.agg [.nilsl,.nilsl,.bool false]])
 hp:H (n0+3)=some (.arr 0 3 [.agg [.osl (n0+4) ver 0 els.length,.nilsl,.bool false]])
 hl:H (n0+4)=some (.arr ver 2 els)
 pile:Pile (n0+5) els (acc.map Zf) pk H n
 src:SrcS rows err ks kw kt lo m vw vt kb tels tk H n
 tkd:∀k∈tk,n0+5≤k∧k∉pk
 low:∀k,k<n0→k≠ks→k≠kw→k≠kt→H k=H0 k
 lt:n0+5≤n∧lo≤n0
 b:tels.length≤m∧kb.length≤m*2097153∧els.length≤m
section
variable {fs:List Fml}{qa:AV}{rows:List RowE}{err:Int}{ks kw kt lo m n0:Nat}{acc:List RowE}{ver:Nat}{els:List AV}{pk:List Nat}{vw vt:Nat}{kb:List (Nat×List UInt8)}{tels:List AV}{tk:List Nat}{H0 H:Heap}{n:Nat}
theorem RnS.on(h:RnS fs qa rows err ks kw kt lo m n0 acc ver els pk vw vt kb tels tk H0 H n){H2:Heap}{n2:Nat}(hH:∀k,k<n→H2 k=H k)(hn:n≤n2):RnS fs qa rows err ks kw kt lo m n0 acc ver els pk vw vt kb tels tk H0 H2 n2:=by
 obtain⟨d1,d2,d3,d4,d5,d6,d7⟩:=h.src.d;have hlt:=h.lt
 exact{
   hs:=(hH _ om).trans h.hs
   hq:=(hH _ om).trans h.hq
   hz:=(hH _ om).trans h.hz
   hp:=(hH _ om).trans h.hp
   hl:=(hH _ om).trans h.hl
   pile:=h.pile.on (fun k _ a=>hH k a) hn
   src:=h.src.on (fun k hk=>hH k (by rcases hk with rfl | rfl | rfl | hk;omega;omega;omega;exact(h.src.told.lo k hk).2)) hn
   tkd:=h.tkd
   low:=fun k a b c d=>(hH k om).trans (h.low k a b c d)
   lt:=om
   b:=h.b}
theorem RnS.next(h : RnS fs qa rows err ks kw kt lo m n0 acc ver els pk vw vt kb tels tk H0 H n){H2 : Heap}{n2 vw2 vt2 : Nat}{kb2 : List (Nat × List UInt8)}{tels2 : List AV}{tk2 : List Nat}(hn : n ≤ n2)(hH : ∀ k, k < n → k ≠ ks → k ≠ kw → k ≠ kt → H2 k = H k)
   (hs:SrcS rows err ks kw kt lo (m+1) vw2 vt2 kb2 tels2 tk2 H2 n2) (htk:∀k∈tk2,k∈tk∨n≤k) (h1:tels2.length≤m+1) (h2:kb2.length≤kb.length+2097153):RnS fs qa rows err ks kw kt lo (m+1) n0 acc ver els pk vw2 vt2 kb2 tels2 tk2 H0 H2 n2:=by
 obtain⟨d1,d2,d3,d4,d5,d6,d7⟩:=h.src.d;have hlt:=h.lt;have hb:=h.b
 exact{
   hs:=(hH _ om om om om).trans h.hs
   hq:=(hH _ om om om om).trans h.hq
   hz:=(hH _ om om om om).trans h.hz
   hp:=(hH _ om om om om).trans h.hp
   hl:=(hH _ om om om om).trans h.hl
   pile:=h.pile.on (fun k a b=>hH k b om om om) hn
   src:=hs
   tkd:=fun k hk=>by
     rcases htk k hk with h9 | h9
     ·exact h.tkd k h9
     ·exact⟨om,fun hm=>by have:=h.pile.lo k hm;omega⟩
   low:=fun k a b c d=>(hH k om b c d).trans (h.low k a b c d)
   lt:=om
   b:=by omega}
theorem RnS.add(h : RnS fs qa rows err ks kw kt lo m n0 acc ver els pk vw vt kb tels tk H0 H n)(hel : els.length + 1 ≤ m){H2 : Heap}{n2 : Nat}{a : AV}{r : RowE}{js : List Nat}(hn : n ≤ n2)(hH : ∀ k, k < n → k ≠ n0 + 3 → k ≠ n0 + 4 → H2 k = H k)
   (hp:H2 (n0+3)=some (.arr 0 3 [.agg [.osl (n0+4) (ver+1) 0 (els.length+1),.nilsl,.bool false]])) (hl:H2 (n0+4)=some (.arr (ver+1) 2 (els++[a]))) (ho:Own H2 a (Zf r) js) (hd:js.Nodup) (hj:∀k∈js,n≤k∧k<n2):
   RnS fs qa rows err ks kw kt lo m n0 (acc++[r]) (ver+1) (els++[a]) (pk++js) vw vt kb tels tk H0 H2 n2:=by
 obtain⟨d1,d2,d3,d4,d5,d6,d7⟩:=h.src.d;have hlt:=h.lt;have hb:=h.b
 exact{
   hs:=(hH _ om om om).trans h.hs
   hq:=(hH _ om om om).trans h.hq
   hz:=(hH _ om om om).trans h.hz
   hp:=by rw[qe];exact hp
   hl:=hl
   pile:=by rw[qj];exact h.pile.add (fun k a b=>hH k b om om) ho hd hj om hn
   src:=h.src.on (fun k hk=>by
     rcases hk with rfl | rfl | rfl | hk
     ·exact hH _ om om om
     ·exact hH _ om om om
     ·exact hH _ om om om
     ·have:=h.tkd k hk;exact hH k (h.src.told.lo k hk).2 om om) hn
   tkd:=fun k hk=>⟨(h.tkd k hk).1,fun hm=>by
     rcases List.mem_append.1 hm with h9 | h9
     ·exact(h.tkd k hk).2 h9
     ·have:=hj k h9;have:=(h.src.told.lo k hk).2;omega⟩
   low:=fun k a b c d=>(hH k om om om).trans (h.low k a b c d)
   lt:=om
   b:=by rw[qe];simp only[qi,List.length_nil];omega}
end
def RunK(rows:List RowE)(err:Int)(ks kw kt lo:Nat)(z:PgE×Nat×Int)(H:Heap)(n:Nat)(res:ARes)(H':Heap)(n':Nat):Prop:=
 n≤n'∧(∀k,k<n→k≠ks→k≠kw→k≠kt→H' k=H k)∧∃a pk vw vt kb tels tk,res= .val (.tup [a,.int .i64 z.2.2])∧Own H' a (pgAV z.1) pk∧pk.Nodup∧(∀k∈pk,n≤k∧k<n')∧SrcS rows err ks kw kt lo z.2.1 vw vt kb tels tk H' n'∧kb.length≤z.2.1*2097153∧∀k∈tk,n≤k∧k∉pk
theorem own_pg{H:Heap}{a b:AV}{p:PgE}{ks js:List Nat}(h1:Own H a (.sl 2 (p.rows.map Zf)) ks)(h2:Own H b (bys p.token) js):Own H (.agg [a,b,.bool p.done]) (pgAV p) (ks++js):=by
 have:=Own.agg (.cons h1 (.cons h2 (.cons (.nk (a:= .bool p.done) trivial) .nil)));simpa [pgAV]using this
theorem RunK.none{rows : List RowE}{err : Int}{ks kw kt lo m vw vt : Nat}{kb : List (Nat × List UInt8)}{tels : List AV}{tk : List Nat}{z : PgE × Nat × Int}{H H' : Heap}{n n' : Nat}{e : Int}(hz : z = (pgZ, m, e))(hn : n ≤ n')(hH : ∀ k, k < n → k ≠ ks → k ≠ kw → k ≠ kt → H' k = H k)
   (hs:SrcS rows err ks kw kt lo m vw vt kb tels tk H' n') (hkb:kb.length≤m*2097153) (htk:∀k∈tk,n≤k):RunK rows err ks kw kt lo z H n (.val (.tup [.agg [.nilsl,.nilsl,.bool false],.int .i64 e])) H' n':=by
 subst hz;exact⟨hn,hH,_,[],vw,vt,kb,tels,tk,rfl,own_pg (p:=pgZ) .nilsl .nilsl,List.nodup_nil,fun k hk=>by simp at hk,hs,hkb,fun k hk=>⟨htk k hk,osi⟩⟩
theorem RnS.none{fs : List Fml}{qa : AV}{rows : List RowE}{err : Int}{ks kw kt lo m n0 : Nat}{acc : List RowE}{ver : Nat}{els : List AV}{pk : List Nat}{vw vt : Nat}{kb : List (Nat × List UInt8)}{tels : List AV}{tk : List Nat}{H0 H : Heap}{n : Nat}(h : RnS fs qa rows err ks kw kt lo m n0 acc ver els pk vw vt kb tels tk H0 H n)
   {z:PgE×Nat×Int} {e:Int} (hz:z=(pgZ,m,e)) {H2:Heap} {n2:Nat} (hn:n≤n2) (hH:∀k,k<n→k≠n0+2→H2 k=H k):RunK rows err ks kw kt lo z H0 n0 (.val (.tup [.agg [.nilsl,.nilsl,.bool false],.int .i64 e])) H2 n2:=by
 obtain⟨d1,d2,d3,d4,d5,d6,d7⟩:=h.src.d;have hlt:=h.lt;refine RunK.none hz om (fun k a b c d=>(hH k om om).trans (h.low k a b c d)) (h.src.on (fun k hk=> ?_) hn) h.b.2.1 (fun k hk=>by have:=h.tkd k hk;omega);rcases hk with rfl | rfl | rfl | hk
 ·exact hH _ om om
 ·exact hH _ om om
 ·exact hH _ om om
 ·have:=h.tkd k hk;exact hH k (h.src.told.lo k hk).2 om
theorem RnS.done{fs : List Fml}{qa : AV}{rows : List RowE}{err : Int}{ks kw kt lo m n0 : Nat}{acc : List RowE}{ver : Nat}{els : List AV}{pk : List Nat}{vw vt : Nat}{kb : List (Nat × List UInt8)}{tels : List AV}{tk : List Nat}{H0 H : Heap}{n : Nat}(h : RnS fs qa rows err ks kw kt lo m n0 acc ver els pk vw vt kb tels tk H0 H n)
   {z:PgE×Nat×Int} {tok:List UInt8} {dn:Bool} (hz:z=(⟨acc,tok,dn⟩,m,0)) {H2:Heap} {n2:Nat} {b:AV} {js:List Nat} (hn:n≤n2) (hH:∀k,k<n→k≠n0+2→k≠n0+3→H2 k=H k) (ho:Own H2 b (bys tok) js) (hd:js.Nodup) (hj:∀k∈js,n≤k∧k<n2):
   RunK rows err ks kw kt lo z H0 n0 (.val (.tup [.agg [.osl (n0+4) ver 0 els.length,b,.bool dn],.int .i64 0])) H2 n2:=by
 subst hz;obtain⟨d1,d2,d3,d4,d5,d6,d7⟩:=h.src.d;have hlt:=h.lt;have hp2:Pile (n0+4+1) (els.take els.length) (acc.map Zf) pk H2 n:=by rw[List.take_of_length_le (Nat.le_refl _)];exact h.pile.on (fun k a b=>hH k b om om) (Nat.le_refl _)
 obtain⟨o1,o2,o3⟩:=hp2.list ((hH _ om om om).trans h.hl) (Nat.le_refl _) om;refine⟨om,fun k a b c d=>(hH k om om om).trans (h.low k a b c d),_,_,vw,vt,kb,tels,tk,rfl,own_pg (p:=⟨acc,tok,dn⟩) o1 ho,List.nodup_append.2 ⟨o2,hd,fun a ha b hb e=>by have:=o3 a ha;have:=hj b hb;omega⟩,fun k hk=> ?_,h.src.on (fun k hk=> ?_) hn,h.b.2.1,fun k hk=>⟨by have:=h.tkd k hk;omega,fun hm=> ?_⟩⟩
 ·rcases List.mem_append.1 hk with h9 | h9
  ·have:=o3 k h9;omega
  ·have:=hj k h9;omega
 ·rcases hk with rfl | rfl | rfl | hk
  ·exact hH _ om om om
  ·exact hH _ om om om
  ·exact hH _ om om om
  ·have:=h.tkd k hk;exact hH k (h.src.told.lo k hk).2 om om
 ·have h8:=h.tkd k hk;rcases List.mem_append.1 hm with h9 | h9
  ·rcases List.mem_cons.1 h9 with e | h9
   ·omega
   ·exact h8.2 h9
  ·have:=hj k h9;have:=(h.src.told.lo k hk).2;omega
end Go.Proofs.YtkmkbndcekklmaaGreatDoor