/- Own layer: what may come, where a question begins and at what time, as the document says, walked. Of the program; no condition. -/
import Derived.Test.YtkmkbndcekklmaaGreatDoorPK
import Derived.Test.YtkmkbndcekklmaaGreatDoorPF
import Derived.Test.YtkmkbndcekklmaaGreatDoorPE
import Derived.Test.YtkmkbndcekklmaaGreatDoorPD
set_option linter.unusedSimpArgs false
set_option linter.unusedVariables false
set_option maxRecDepth 10000
namespace Go.Proofs.YtkmkbndcekklmaaGreatDoor
open Go Go.Sx Go.Rt Go.Proofs Tryz
def JL(rev:Bool)(row l:List UInt8):Bool:=if rev then decide (0≤Lib.compareBytes row l)else decide (Lib.compareBytes row l≤0)
def JM(rev:Bool)(row l:List UInt8):Bool:=if rev then decide (0≤Lib.compareBytes row l)else decide (Lib.compareBytes row l<0)
def PM(nf:Nat)(q:QryE)(x:RowE)(last:List UInt8)(any:Bool)(start:List UInt8)(has:Bool):Bool:=
 !(decide (x.row.length=0∨256<x.row.length))&& !(any&&JL q.rev x.row last)&& !(has&&JM q.rev x.row start)&& !YY nf x.cells
theorem comesX_eq(nf:Nat)(q:QryE)(x:RowE)(last:Option (List UInt8))(start:List UInt8)(has:Bool):PM nf q x (last.getD []) last.isSome start has=XR nf q x last start has:=by
 have e1:∀a:Int,(!decide (0≤a))=decide (a<0):=fun a=>by rw[Bool.eq_iff_iff];simp
 have e2:∀a:Int,(!decide (a≤0))=decide (0<a):=fun a=>by rw[Bool.eq_iff_iff];simp
 have e3:∀a:Int,(!decide (a<0))=decide (0≤a):=fun a=>by rw[Bool.eq_iff_iff];simp
 unfold PM XR JL JM;congr 1;congr 1
 ·congr 1;cases last with
  | none=>rfl
  | some l=>cases q.rev<;>simp only[Option.isSome_some,Option.getD_some,Bool.true_and,if_true,Bool.false_eq_true,if_false,e1,e2]
 ·cases has<;>cases q.rev<;>simp only[Bool.true_and,Bool.false_and,Bool.not_false,Bool.not_true,Bool.true_or,Bool.false_or,if_true,Bool.false_eq_true,if_false,e1,e3]
theorem ND30.eqs{P Q:Prop}(g:Imp P Q:=by(try simp only[go_sem,seval,hszs,hags,hmos,hszq,hagq,hmoq,hszr,hagr,hmor,f1,f2,f3,hnth,e1,b1,b3,he,hle,hge,qg,qb,qd,Zt,Zf,Zj,Ze,Zx,bys,Zh]);exact Imp.rf):Imp P Q:=g
theorem ND30.sd{P:Prop}(g:P:=by first | exact Yg _ | (intro _;exact Yg _) | (intro _ h8 h9;rw[h8,h9];rfl) | (intro _ h8;rw[h8];rfl) | (intros;simp_all;done) | fail):P:=g
set_option maxHeartbeats 6400000 in
open ND30 NZ in
theorem J3(fs : List Fml)(hfs : fs.length ≤ 1048576)(q : QryE)(r : RowE)(hcl : r.cells.length ≤ 1048576)(last : List UInt8)(any : Bool)(start : List UInt8)(has : Bool)(H : Heap)(n : Nat):
   Ret prog 88 [Zh fs,Ze q,Zf r,bys last,.bool any,bys start,.bool has] H n (.bool (PM fs.length q r last any start has)) H n:=by
 have hszs:(Zh fs).sz=1:=rfl;have hags:(Zh fs).isAgg=true:=rfl;have hmos:(Zh fs).memOK=true:=rfl;have hszq:(Ze q).sz=10:=ZT q;have hagq:(Ze q).isAgg=true:=rfl;have hmoq:(Ze q).memOK=true:=rfl;have hszr:(Zf r).sz=2:=Ws r;have hagr:(Zf r).isAgg=true:=rfl;have hmor:(Zf r).memOK=true:=rfl;have f1:(n=n+1)=False:=osi;have f2:(n=n+2)=False:=osi;have f3:(n+1=n+2)=False:=osi;have hnth:=hszs;have e1:=hszs;have b1:=hszs;have b3:=hszs;have he:IntKind.i64.wrap ((fs.length:Int)-1)=(fs.length:Int)-1:=w64 om om;have hle:∀a b:List UInt8,(Op.bytesLess a b||a==b)=decide (Lib.compareBytes a b≤0):=fun a b=>by
   obtain⟨c1,c2⟩:=Xh a b;rw[c2,Bool.eq_iff_iff,Bool.or_eq_true,decide_eq_true_eq,beq_iff_eq,decide_eq_true_eq,←c1];omega
 have hge:∀a b:List UInt8,(!Op.bytesLess a b)=decide (0≤Lib.compareBytes a b):=fun a b=>by
   rw[(Xh a b).2,Bool.eq_iff_iff];simp
 have hlt:∀a b:List UInt8,Op.bytesLess a b=decide (Lib.compareBytes a b<0):=fun a b=>(Xh a b).2;obtain⟨z,hz⟩:∃z,z=PM fs.length q r last any start has:=⟨_,rfl⟩;rw[←hz];unfold PM at hz;refine Ret.fin ?_;refine fw func88 ntmps88 results88 ?_;refine rg zs [3,4,5,6,7,8,9] ?_;refine Za fun K1 hK1=> ?_;refine rg zs [3,4,5,6,7,8,9,26] ?_;refine Zb ?_ ?_<;>intro hb
 ·have h1:r.row.length=0∨256<r.row.length:=by simp at hb;grind
  have hzz:z=false:=by rw[hz,decide_eq_true h1];rfl
  refine rg zs [14] ?_;refine ar ?_;refine⟨_,rfl,fun k hk=>by first | exact hlow k hk | (try simp only[Rl]);(repeat first | rw[if_pos rfl] | rw[if_pos trivial] | rw[if_neg om]),Frz.eq (by rw[hzz]) trivial⟩
 have h1:¬(r.row.length=0∨256<r.row.length):=by simp at hb;grind
 refine ak ?_;apply hK1;refine rg zs [3,4,5,6,7,8,9,15] ?_;refine Za fun K2 hK2=> ?_;refine rg zs [5,6,7,8,9,15,51] ?_;refine Zb ?_ ?_<;>intro hb
 ·have h2:(any&&JL q.rev r.row last)=true:=by unfold JL;have h9:=hb;clear hb hle hge hlt hz;revert h9;cases any<;>cases q.rev<;>intro h9<;>first | rfl | exact h9 | (simp at h9 ⊢;omega) | (simp at h9;done)
  have hzz:z=false:=by rw[hz,h2];simp
  refine rg zs [14] ?_;refine ar ?_;refine⟨_,rfl,fun k hk=>by first | exact hlow k hk | (try simp only[Rl]);(repeat first | rw[if_pos rfl] | rw[if_pos trivial] | rw[if_neg om]),Frz.eq (by rw[hzz]) trivial⟩
 have h2:(any&&JL q.rev r.row last)=false:=by unfold JL;have h9:=hb;clear hb hle hge hlt hz;revert h9;cases any<;>cases q.rev<;>intro h9<;>first | rfl | exact h9 | (simp at h9 ⊢;omega) | (simp at h9;done)
 refine ak ?_;apply hK2;refine Za fun K3 hK3=> ?_;refine rg zs [7,9,73] ?_;refine Zb ?_ ?_<;>intro hb
 ·have h3:(has&&JM q.rev r.row start)=true:=by unfold JM;have h9:=hb;rw[hlt]at h9;clear hb hle hge hlt hz;revert h9;cases has<;>cases q.rev<;>intro h9<;>first | rfl | exact h9 | (simp at h9 ⊢;omega) | (simp at h9;done)
  have hzz:z=false:=by rw[hz,h3];simp
  refine rg zs [14] ?_;refine ar ?_;refine⟨_,rfl,fun k hk=>by first | exact hlow k hk | (try simp only[Rl]);(repeat first | rw[if_pos rfl] | rw[if_pos trivial] | rw[if_neg om]),Frz.eq (by rw[hzz]) trivial⟩
 have h3:(has&&JM q.rev r.row start)=false:=by unfold JM;have h9:=hb;rw[hlt]at h9;clear hb hle hge hlt hz;revert h9;cases has<;>cases q.rev<;>intro h9<;>first | rfl | exact h9 | (simp at h9 ⊢;omega) | (simp at h9;done)
 rw[decide_eq_false h1,h2,h3]at hz;refine ak ?_;apply hK3;refine Za fun K4 hK4=> ?_;refine rg zs [7,9,16] ?_;refine Zq ?_;refine Zk (fun T' H' n'=>∃i:Nat,i≤r.cells.length∧(∀j,j<i→bout (r.cells.getD j default).fam 0 ((fs.length:Int)-1)=false)∧T'=tl [(7,.loc n 0 0 0 []),(9,.loc (n+2) 0 0 0 []),(16,.int .i64 i)]∧H' n=some (.arr 0 1 [Zh fs])∧H' (n+2)=some (.arr 0 2 [Zf r])∧(∀k,k<n→H' k=H k)) (fun T' _ _=>r.cells.length-iv (T' 16)) ?_ ?_
 ·exact⟨0,Nat.zero_le _,fun j hj=>om,rfl,ohr,ohr,fun k hk=>oh⟩
 rintro T1 H1 n1 ⟨i,hi,hfa,rfl,b1,b3,hlow⟩;refine Za fun K5 hK5=> ?_;refine rg zs [7,9,16,78] ?_;refine Zb ?_ ?_<;>intro hb
 ·have hci:i<r.cells.length:=ott;have hnth:nth (r.cells.map Zj) i=Zj (r.cells.getD i default):=Zr Zj r.cells i hci;have e1:IntKind.i64.wrap ((i:Int)+1)=((i+1:Nat):Int):=w1 om;refine ak ?_;apply hK5;refine bk fun K6 hK6=> ?_;refine dx zs [7,9,16,91] [.q,.q,.m,.q,.q,.q,.q,.q,.q,.q,.c] [0,1,2,3,4,5,6,7,8,9,10] [0,1,2,3,4,5,6,7,8,9,10] fun K V=> ?_;refine cq func68 (fun _ n=>(Vs (r.cells.getD i default).fam 0 ((fs.length:Int)-1) _ _)) ?_;apply V;clear V K;refine Zb ?_ ?_<;>intro hb
  ·have hzz:z=false:=by rw[hz,Py hci hb];rfl
   refine rg zs [14] ?_;refine ar ?_;refine⟨_,rfl,fun k hk=>by first | exact hlow k hk | (try simp only[Rl]);(repeat first | rw[if_pos rfl] | rw[if_pos trivial] | rw[if_neg om]),Frz.eq (by rw[hzz]) trivial⟩
  have hno:bout (r.cells.getD i default).fam 0 ((fs.length:Int)-1)=false:=hb;refine ak ?_;apply hK6;refine rg1 zs [7,9,16] ?_;exact⟨⟨i+1,om,fun j hj=>(by rcases Nat.lt_or_ge j i with h9 | h9;exact hfa j h9;rw[show j=i by omega];exact hno),rfl,hlow⟩,by omega⟩
 have hci:i=r.cells.length:=otf;have hzz:z=true:=by subst hci;rw[hz,KV hfa];rfl
 refine ax ?_;apply hK4;refine rg zs [14] ?_;refine ar ?_;refine⟨_,rfl,fun k hk=>by first | exact hlow k hk | (try simp only[Rl]);(repeat first | rw[if_pos rfl] | rw[if_pos trivial] | rw[if_neg om]),Frz.eq (by rw[hzz]) trivial⟩
theorem mark_has{q:QryE}(h:(Zz q).2.2=0):decide (q.token.length≠0∧(Zz q).2.2=0)=decide (0<(Zz q).1):=by
 refine decide_eq_decide.2 ⟨fun hc=> ?_,fun hp=>⟨fun e=> ?_,h⟩⟩
 ·have h2:=h;unfold Zz at h2 ⊢;rw[if_neg hc.1]at h2 ⊢;split at h2
  ·exact absurd h2 odc
  rename_i a1;rw[if_neg a1];split at h2
  ·exact absurd h2 odc
  rename_i a2;rw[if_neg a2];split at h2
  ·exact absurd h2 odc
  rename_i a3;rw[if_neg a3];simp only;omega
 ·unfold Zz at hp;rw[if_pos e]at hp;simp at hp
theorem oo_ref1_Part(b:List UInt8)(hb:b.length≤1099511627776)(H:Heap)(n:Nat):Zn prog 58 [bys b,.int .i64 0,.int .i64 b.length] H n (OAns H n (bys b)):=by
 have h9:=Vn b hb 0 b.length (Nat.zero_le _) (Nat.le_refl _) H n;rw[List.take_length,List.drop_zero]at h9;refine h9.mono fun res H1 n1 ⟨hr,hH,hn⟩=> ?_;subst hr;subst hH;subst hn;exact OAns.one (.osl (Rm _ _ _) osi (by rw[List.take_of_length_le osi];exact RD _ (WW _))) om (fun k hk=>Rk _ _ om) om
theorem l_ref1_Part{js:List Nat}{H:Heap}{a:AV}{b:List UInt8}(ha:LSl js H a 1 (b.map Zd))(hb:b.length≤1099511627776)(n:Nat):Ret prog 58 [a,.int .i64 0,.int .i64 b.length] H n (bys b) H n:=
 OAns.fin (OAns.lend (Jq.none H) (.cons ha.l.frz (.cons (.kl trivial) (.cons (.kl trivial) .nil))) (oo_ref1_Part b hb _ _))
theorem ND40.eqs{P Q:Prop}(g:Imp P Q:=by(try simp only[go_sem,seval,hsz,hag,hmo,f1,LX,Ze,Zx,bys,qb]);exact Imp.rf):Imp P Q:=g
open ND40 NY in
theorem c_ref13_At(q:QryE)(hq:q.fine)(ht: -9223372036854775808≤q.time∧q.time<9223372036854775808)(clock:Int)(H:Heap)(n:Nat):Ret prog 37 [Ze q,.int .i64 clock] H n (.tup [.int .i64 (atE q clock).1,.int .i64 (atE q clock).2]) H n:=by
 have hsz:(Ze q).sz=10:=ZT q;have hag:(Ze q).isAgg=true:=rfl;have hmo:(Ze q).memOK=true:=rfl;obtain⟨z,hz⟩:∃z,z=atE q clock:=⟨_,rfl⟩;rw[←hz];unfold atE at hz;have f1:(n=n+1)=False:=osi;refine Ret.fin ?_;refine fw func37 ntmps37 results37 ?_;refine rg zs [1,2] ?_;refine Za fun K1 hK1=> ?_;refine rc zs [1,2,9] func68 ((Vs clock 1 1099511627776 _ _)) ?_;refine Zb ?_ ?_<;>intro hb
 ·rw[if_pos (by unfold bout at hb;simp at hb;omega)]at hz;exact kah
 rw[if_neg (by unfold bout at hb;simp at hb;omega)]at hz;refine kay ?_;refine rc zs [1,2,6,7] func60 ((WB q hq ht _ _)) ?_;refine Za fun K2 hK2=> ?_;refine rg zs [1,2,6,7,16] ?_;refine Zb ?_ ?_<;>intro hb
 ·rw[if_pos osb]at hz;exact kah
 have h0:(Zz q).2.2=0:=osb;rw[if_neg (by simp[h0])]at hz;have hmh:=mark_has h0;refine kaQ ?_;refine Za fun K3 hK3=> ?_;refine rg zs [1,2,6,19] ?_;refine Zb ?_ ?_<;>intro hb
 ·rw[if_pos (by rw[hmh]at hb;exact of_decide_eq_true hb)]at hz;exact kah
 rw[if_neg (by rw[hmh]at hb;exact of_decide_eq_false hb)]at hz;refine kba ?_;refine Za fun K4 hK4=> ?_;refine rg zs [1,2,24] ?_;refine Zb ?_ ?_<;>intro hb
 ·rw[if_pos osb]at hz;exact kah
 rw[if_neg osb]at hz;refine kb3 ?_;exact kah
theorem ND41.eqs{P Q:Prop}(g:Imp P Q:=by(try simp only[go_sem,seval,hsz,hag,hmo,f1,hst,hql,LX,Ze,Zx,bys,qb,Yr]);exact Imp.rf):Imp P Q:=g
theorem ND41.sd{P:Prop}(g:P:=by first | exact⟨Nat.le_refl _,.inr trivial,om,om⟩ | fail):P:=g
set_option maxHeartbeats 1600000 in
open ND41 NZ in
theorem J4(q:QryE)(hq:q.fine)(ht: -9223372036854775808≤q.time∧q.time<9223372036854775808)(H:Heap)(n:Nat):Ret prog 25 [Ze q] H n (Yt q) H n:=by
 have hsz:(Ze q).sz=10:=ZT q;have hag:(Ze q).isAgg=true:=rfl;have hmo:(Ze q).memOK=true:=rfl;have hR:=Kz q;obtain⟨z,hz⟩:∃z,z=Zv q:=⟨_,rfl⟩;unfold Yt;rw[←hz];unfold Zv at hz;have hql:=hsz;have hst:=hsz;have f1:(n=n+1)=False:=osi;have hqf:=hq.frm;have hqt:=hq.to;have hlen:=hR.len;refine Ret.fin ?_;refine fw func25 ntmps25 results25 ?_;refine rg zs [1] ?_;refine rc zs [1,5,6] func60 ((WB q hq ht _ _)) ?_;refine Za fun K1 hK1=> ?_;refine rg zs [1,5,6,14] ?_;refine Zb ?_ ?_<;>intro hb
 ·rw[if_pos osb]at hz;refine rg zs [2,3,4] ?_;refine ar ?_;rw[hz];exact⟨_,rfl,fun k hk=>oh,.tup (.cons .nilsl (.cons (.kl trivial) (.cons (.kl trivial) .nil)))⟩
 have h0:(Zz q).2.2=0:=osb;rw[if_neg (by simp[h0])]at hz;have hmh:=mark_has h0;refine kay ?_;refine rg zs [1,5,7] ?_;refine ZL [1,5,7] (fun T' H' n'=>T'=tl [(1,.loc n 0 0 0 []),(5,.loc (n+1) 0 0 0 []),(7,bys (if q.rev then q.to else q.frm))]∧H'=(H.put n (some (.arr 0 10 [Ze q]))).put (n+1) (some (.arr 0 3 [LX q]))∧n'=n+2) ?_ ?_
 ·refine rg zs [1,5,7,19] ?_;refine Zb ?_ ?_<;>intro hb
  ·refine rg1 zs [1,5,7] ?_;refine ns ?_;rw[hb];first | rfl | exact⟨rfl,rfl,rfl⟩ | exact⟨rfl,rfl⟩
  refine ak ?_;refine ns ?_;rw[hb];first | rfl | exact⟨rfl,rfl,rfl⟩ | exact⟨rfl,rfl⟩
 rintro T1 H1 n1 ⟨rfl,rfl,rfl⟩;refine ZL [7] (fun T' H' n'=>∃a js,T'=tl [(7,a)]∧LSl js H' a 1 ((if 0<(Zz q).1 then(if q.rev then(Zz q).2.1 else(Zz q).2.1++[0])else(if q.rev then q.to else q.frm)).map Zd)∧(∀k,k<n→H' k=H k)∧n≤n') ?_ ?_
 ·refine rg zs [1,5,7,23] ?_;refine Zb ?_ ?_<;>intro hb
  ·have hpos:0<(Zz q).1:=by rw[hmh]at hb;exact of_decide_eq_true hb
   refine rg zs [1,7] ?_;refine rg zs [7,28] ?_;refine Zb ?_ ?_<;>intro hb
   ·have hrv:q.rev=false:=osb;refine rk1 zs [7] fun K V=> ?_;refine ck func58 ((by have h9:=Vn (Zz q).2.1 om 0 (Zz q).2.1.length (Nat.zero_le _) (Nat.le_refl _);rw[List.take_length,List.drop_zero]at h9;exact h9 _ _)) ?_;refine kas ?_;refine ns ?_;refine ns ?_;rw[if_pos hpos,hrv,if_neg osi];exact⟨_,[_],rfl,Own.lsl (.osl (els:=((Zz q).2.1++[0]).map Zd) (by rw[Rm,qj];rfl) osi (by rw[List.take_of_length_le osi];exact RD _ (WW _))),fun k hk=>oh,om⟩
   have hrv:q.rev=true:=osb;refine ak ?_;refine ns ?_;rw[if_pos hpos,hrv,if_pos rfl];exact⟨_,[],rfl,.ro (Z4 _ _),fun k hk=>oh,om⟩
  have hpos:¬0<(Zz q).1:=by rw[hmh]at hb;exact of_decide_eq_false hb
  refine ak ?_;refine ns ?_;rw[if_neg hpos];exact⟨_,[],rfl,.ro (Z4 _ _),fun k hk=>oh,om⟩
 obtain⟨w,hw⟩:∃w,w=(if 0<(Zz q).1 then(if q.rev then(Zz q).2.1 else(Zz q).2.1++[0])else(if q.rev then q.to else q.frm)):=⟨_,rfl⟩;rw[←hw];rintro T1 H1 n1 ⟨a,js,rfl,hL,hlow,hn1⟩;have hwl:w.length≤1048576:=by rw[hw];by_cases a9:0<(Zz q).1<;>cases q.rev<;>simp[a9]<;>omega
 have hst:=hL.st;have hql:=hL.len prog 22;rw[qb]at hql;have hzz:z=(w,decide (0<w.length),0):=by
   rw[hz,hw];by_cases hp:0<(Zz q).1
   ·rw[if_pos hp,if_pos hp,decide_eq_true];have h9:=(hR.row hp).2;cases q.rev<;>simp;omega
   ·rw[if_neg hp,if_neg hp];cases q.rev<;>rfl
 refine rk zs [2,3,4] fun K V=> ?_;refine ck func58 ((l_ref1_Part hL om _)) ?_;refine kas ?_;refine ar ?_;rw[hzz,show decide ((0:Int)<(w.length:Int))=decide (0<w.length)from decide_eq_decide.2 om];exact⟨_,rfl,hlow,.kl ⟨Xg _ _,trivial,trivial,trivial⟩⟩
theorem PY(fs : List Fml)(hfs : fs.length ≤ 1048576)(q : QryE)(r : RowE)(hcl : r.cells.length ≤ 1048576)(last : Option (List UInt8))(start : List UInt8)(has : Bool)(H : Heap)(n : Nat):
   Ret prog 88 [Zh fs,Ze q,Zf r,Ki last,.bool last.isSome,bys start,.bool has] H n (.bool (XR fs.length q r last start has)) H n:=by
 rw[←comesX_eq];cases last with
 | none=>exact Ret.wk (J3 fs hfs q r hcl [] false start has H n) ⟨.refl _,.refl _,.refl _,.nilsl _,.refl _,.refl _,.refl _,trivial⟩
 | some l=>exact J3 fs hfs q r hcl l true start has H n
theorem kl_row(r:RowE)(n:Nat):(Zf r).kl n:=⟨Xg _ _,Xq Zj (fun c=>⟨trivial,Xg _ _,trivial,Xg _ _,trivial⟩) _,trivial⟩
theorem qcE_ok{fs:List Fml}{q:QryE}(h:qcE fs q=0):Zy fs=0∧Yy fs.length q=true∧(Zz q).2.2=0:=by
 unfold qcE at h;by_cases h1:Zy fs≠0
 ·rw[if_pos h1]at h;exact absurd h h1
 rw[if_neg h1]at h;by_cases h2:Yy fs.length q=false
 ·rw[if_pos h2]at h;exact absurd h odc
 rw[if_neg h2]at h;by_cases h3:0<q.whr.length∧(Xc fs q.whr).2.1≠0
 ·rw[if_pos h3]at h;exact absurd h h3.2
 rw[if_neg h3]at h;exact⟨by simpa using h1,by simpa using h2,h⟩
theorem atE_ok{q:QryE}{clock:Int}(h:(Zz q).2.2=0):((atE q clock).2≠0↔bout clock 1 1099511627776=true):=by
 unfold atE bout;by_cases h1:clock<1∨1099511627776<clock
 ·rw[if_pos h1];simp;omega
 ·rw[if_neg h1,if_neg (by simp[h])];have:¬((decide (clock<1)||decide (1099511627776<clock))=true):=oz;constructor
  ·intro h2;exfalso;apply h2;split;rfl;split<;>rfl
  ·intro h2;exact absurd h2 this
def gErr(fs:List Fml)(q:QryE)(clock:Int):Int:=if qcE fs q=0∧bout clock 1 1099511627776=true then 1 else qcE fs q
def Po(fs:List Fml)(q:QryE)(clock:Int)(rows:List RowE)(err:Int):PgE×Nat×Int:=
 if gErr fs q clock≠0 then(pgZ,0,gErr fs q clock)
 else MF fs.length q (Z6 fs q) (tokB q (atE q clock).1) (Zv q).1 (Zv q).2.1 err 0 none [] rows
theorem goesE_run(fs:List Fml)(q:QryE)(clock:Int)(rows:List RowE)(err:Int):Po fs q clock rows err=runE fs q clock (some (rows,err)):=by
 unfold Po runE;by_cases h:qcE fs q=0
 ·obtain⟨_,_,h3⟩:=qcE_ok h;have ha:=atE_ok (clock:=clock) h3;have hc:¬qcE fs q≠0:=by simp[h]
  rw[if_neg hc];by_cases hb:bout clock 1 1099511627776=true
  ·have hg:gErr fs q clock=1:=if_pos ⟨h,hb⟩;rw[if_pos (by rw[hg];decide),if_pos (ha.2 hb),hg]
  ·have hg:gErr fs q clock=0:=(if_neg (fun e=>hb e.2)).trans h;rw[if_neg (by simp[hg]),if_neg (fun e=>hb (ha.1 e))];exact Pn (startE_ok q h3) _ _ _ _ (fun l hl=>by cases hl)
 ·have hg:gErr fs q clock=qcE fs q:=if_neg (fun e=>h e.1);rw[hg,if_pos h,if_pos h]
theorem frz_pgZ(H:Heap)(n:Nat)(a e:Int):Frz H n (.tup [.agg [.nilsl,.nilsl,.bool false],.int .i64 a,.int .i64 e]) (.tup [pgAV pgZ,.int .i64 a,.int .i64 e]):=
 .tup (.cons (.agg (.cons .nilsl (.cons .nilsl (.cons (.kl trivial) .nil)))) (.cons (.kl trivial) (.cons (.kl trivial) .nil)))
theorem frz_pg{H:Heap}{n k ver:Nat}{acc:List RowE}{b:AV}{tok:List UInt8}(d:Bool)(a e:Int)(hk:H k=some (.arr ver 2 (acc.map Zf)))(hn:n≤k)(hb:Frz H n b (bys tok)):Frz H n (.tup [.agg [.osl k ver 0 acc.length,b,.bool d],.int .i64 a,.int .i64 e]) (.tup [pgAV ⟨acc,tok,d⟩,.int .i64 a,.int .i64 e]):=
 .tup (.cons (.agg (.cons (.osl hk hn osi (by rw[List.drop_zero,List.take_of_length_le osi];exact XM _ (Xq Zf (fun r=>kl_row r _) _))) (.cons hb (.cons (.kl trivial) .nil)))) (.cons (.kl trivial) (.cons (.kl trivial) .nil)))
theorem comes_true{nf:Nat}{q:QryE}{x:RowE}{last:Option (List UInt8)}{start:List UInt8}{has:Bool}(h:XR nf q x last start has=true):x.row.length≤256∧YY nf x.cells=false:=by
 unfold XR at h;simp only[Bool.and_eq_true,Bool.not_eq_true',decide_eq_false_iff_not]at h;exact⟨by have:=h.1.1.1;omega,h.2⟩
theorem ND50.eqs{P Q:Prop}(g:Imp P Q:=by(try simp only[go_sem,seval,hszs,hags,hmos,hszq,hagq,hmoq,hrs,hra,hrm,f1,f2,f3,b1,b2,b3,b4,b5,b6,hnth,e1,g1,g2,g3,g4,g5,Yt,YE,qg,qb,qd,Zf,Ze,Zx,bys]);exact Imp.rf):Imp P Q:=g
theorem ND50.sd{P:Prop}(g:P:=by first | exact⟨rfl,by(simp[AV.sz,AV.szs,AV.memOK];first | done | fail)⟩ | exact⟨Nat.le_refl _,.inr trivial,om,om⟩ | fail):P:=g
set_option maxRecDepth 100000 in
set_option maxHeartbeats 6400000 in
open ND50 NZ in
theorem c_ref13_Goes(fs : List Fml)(hfs : fs.length ≤ 1048576)(q : QryE)(hqf : q.fine)(clock : Int)(rows : List RowE)(hrw : YA rows)(err : Int)(H : Heap)(n : Nat):
   Ret prog 57 [Zh fs,Ze q,.int .i64 clock,.sl 2 (rows.map Zf),.int .i64 err] H n (.tup [pgAV (Po fs q clock rows err).1,.int .i64 (Po fs q clock rows err).2.1,.int .i64 (Po fs q clock rows err).2.2]) H n:=by
 obtain⟨hrl,hrb⟩:=hrw;have hszs:(Zh fs).sz=1:=rfl;have hags:(Zh fs).isAgg=true:=rfl;have hmos:(Zh fs).memOK=true:=rfl;have hszq:(Ze q).sz=10:=ZT q;have hagq:(Ze q).isAgg=true:=rfl;have hmoq:(Ze q).memOK=true:=rfl;have hrs:∀r,(Zf r).sz=2:=Ws;have hra:∀r,(Zf r).isAgg=true:=fun _=>rfl;have hrm:∀r,(Zf r).memOK=true:=fun _=>rfl;have f1:(n=n+1)=False:=osi;have f2:(n=n+2)=False:=osi;have f3:(n+1=n+2)=False:=osi;have b1:=hszs;have b2:=hszs;have b3:=hszs;have b4:=hszs;have b5:=hszs;have b6:=hszs;have hnth:=hszs;have e1:=hszs;have g1:=hszs;have g2:=hszs;have g3:=hszs;have g4:=hszs;have g5:=hszs;obtain⟨z,hz⟩:∃z,z=Po fs q clock rows err:=⟨_,rfl⟩;rw[←hz];unfold Po at hz;refine Ret.fin ?_;refine fw func57 ntmps57 results57 ?_;refine rg zs [2,3,4,5,6,10] ?_;refine rc zs [2,3,4,5,6,10,13] func38 ((UC fs hfs q hqf _ _)) ?_;refine ZL [2,3,4,5,6,10,13] (fun T' H' n'=>T'=tl [(2,.int .i64 clock),(3,.sl 2 (rows.map Zf)),(4,.int .i64 err),(5,.loc n 0 0 0 []),(6,.loc (n+1) 0 0 0 []),(10,.loc (n+2) 0 0 0 []),(13,.int .i64 (gErr fs q clock))]∧H'=((H.put n (some (.arr 0 1 [Zh fs]))).put (n+1) (some (.arr 0 10 [Ze q]))).put (n+2) (some (.arr 0 3 [.agg [.nilsl,.nilsl,.bool false]]))∧n'=n+3) ?_ ?_
 ·refine rk zs [2,3,4,5,6,10,13,34] fun K V=> ?_;refine cg func68 (fun _=>(Vs clock 1 1099511627776 _ _)) ?_;apply V;clear V K;refine Zb ?_ ?_<;>intro hb
  ·have hge:gErr fs q clock=1:=by unfold gErr;have h9:=hb;simp at h9;rw[if_pos h9]
   refine rg1 zs [2,3,4,5,6,10,13] ?_;refine ns ?_;rw[hge];first | done | rfl | exact⟨rfl,rfl⟩
  have hge:gErr fs q clock=qcE fs q:=by unfold gErr;have h9:=hb;simp at h9;rw[if_neg (fun e=>by have:=h9 e.1;rw[e.2]at this;cases this)]
  refine ak ?_;refine ns ?_;rw[hge];first | done | rfl | exact⟨rfl,rfl⟩
 rintro T1 H1 n1 ⟨rfl,rfl,rfl⟩;refine Za fun K1 hK1=> ?_;refine rg zs [2,3,4,5,6,10,13,36] ?_;refine Zb ?_ ?_<;>intro hb
 ·rw[if_pos osb]at hz;refine rg zs [10,11,12] ?_;refine ar ?_;rw[hz];exact⟨_,rfl,fun k hk=>oh,frz_pgZ _ _ _ _⟩
 have hg0:gErr fs q clock=0:=osb;rw[if_neg (by simp[hg0])]at hz;have hc0:qcE fs q=0:=by unfold gErr at hg0;split at hg0;cases hg0;exact hg0
 obtain⟨hsc,hft,hrd⟩:=qcE_ok hc0;have hti:=Ma hft;refine ak ?_;apply hK1;refine rk zs [3,4,5,6,10,14] fun K V=> ?_;refine ck func37 ((c_ref13_At q hqf om clock _ _)) ?_;apply V;clear V K;refine rk zs [3,4,5,6,10,14,16,17] fun K V=> ?_;refine ck func25 ((J4 q hqf om _ _)) ?_;apply V;clear V K;refine rg zs [3,4,5,6,10,14,16,17,19] ?_;refine rg zs [3,4,5,6,10,14,16,17,19,20] ?_;refine Za fun K2 hK2=> ?_;refine rg zs [3,4,5,6,10,14,16,17,19,20,21] ?_;refine Zq ?_;refine ZO (n+3) 2 (ver:=0) (e:=3) (els:=[.agg [.nilsl,.nilsl,.bool false]]) (els':=[.agg [.osl (n+4) 0 0 0,.nilsl,.bool false]]) oh ⟨Adp.agg ⟨Adp.nilsl _,.refl _ _,.refl _ _,trivial⟩,trivial⟩ ?_;refine Zk (fun T' H' n'=>∃(m ver:Nat) (last:Option (List UInt8)) (acc:List RowE),m≤rows.length∧acc.length≤m∧last.isSome=decide (0<m)∧T'=tl [(3,.sl 2 (rows.map Zf)),(4,.int .i64 err),(5,.loc n 0 0 0 []),(6,.loc (n+1) 0 0 0 []),(10,.loc (n+2) 0 0 0 []),(14,.int .i64 (atE q clock).1),(16,bys (Zv q).1),(17,.bool (Zv q).2.1),(19,.loc (n+3) 0 0 0 []),(20,Ki last),(21,.int .i64 m)]∧H' n=some (.arr 0 1 [Zh fs])∧H' (n+1)=some (.arr 0 10 [Ze q])∧H' (n+2)=some (.arr 0 3 [.agg [.nilsl,.nilsl,.bool false]])∧H' (n+3)=some (.arr 0 3 [.agg [.osl (n+4) ver 0 acc.length,.nilsl,.bool false]])∧H' (n+4)=some (.arr ver 2 (acc.map Zf))∧(∀k,k<n→H' k=H k)∧n+5≤n'∧MF fs.length q (Z6 fs q) (tokB q (atE q clock).1) (Zv q).1 (Zv q).2.1 err m last acc (rows.drop m)=z) (fun T' _ _=>rows.length-iv (T' 21)) ?_ ?_
 ·exact⟨0,0,none,[],Nat.zero_le _,Nat.zero_le _,rfl,rfl,ohr,ohr,oh,ohr,ohr,fun k hk=>oh,om,by rw[hz,List.drop_zero]⟩
 rintro T1 H1 n1 ⟨m,ver,last,acc,hm,hac,hlm,rfl,b1,b2,b3,b4,b5,hlow,hn1,hzz⟩;refine Za fun K3 hK3=> ?_;refine rg zs [3,4,5,6,10,14,16,17,19,20,21,54] ?_;refine Zb ?_ ?_<;>intro hb
 ·have hci:m<rows.length:=ott;have hnth:nth (rows.map Zf) m=Zf (rows.getD m default):=Zr Zf rows m hci;rw[drop_at2 rows hci]at hzz;have hrx:=hrb _ (Yj rows hci);generalize rows.getD m default=x at*;unfold MF at hzz;have g1:(n=n1)=False:=oz;have g2:(n+1=n1)=False:=oz;have g3:(n+2=n1)=False:=oz;have g4:(n+3=n1)=False:=oz;have g5:(n+4=n1)=False:=oz;have e1:IntKind.i64.wrap ((m:Int)+1)=((m+1:Nat):Int):=w1 om;have hdm:decide ((0:Int)<(m:Int))=last.isSome:=by rw[hlm];exact decide_eq_decide.2 om
  refine ak ?_;apply hK3;refine bk fun K4 hK4=> ?_;refine rg zs [3,4,5,6,10,14,16,17,19,20,21,22] ?_;refine Zg zs [3,4,5,6,10,14,16,17,19,21,22,23] fun K V=> ?_
  try simp only[go_sem,seval,hszs,hags,hmos,hszq,hagq,hmoq,hrs,hra,hrm,f1,f2,f3,b1,b2,b3,b4,b5,b6,hnth,e1,g1,g2,g3,g4,g5,Yt,YE,qg,qb,qd,Zf,Ze,Zx,bys,hszs,hags,hmos,hszq,hagq,hmoq,hrs,hra,hrm,b1,b2,g1,g2,hdm,YE]
  repeat refine peel ?_
  refine Zu func88 rfl rfl rfl ((PY fs hfs q x hrx.2.1 last (Zv q).1 (Zv q).2.1 _ _)) ?_
  try simp only[go_sem,seval,hszs,hags,hmos,hszq,hagq,hmoq,hrs,hra,hrm,f1,f2,f3,b1,b2,b3,b4,b5,b6,hnth,e1,g1,g2,g3,g4,g5,Yt,YE,qg,qb,qd,Zf,Ze,Zx,bys,hszs,hags,hmos,hszq,hagq,hmoq,hrs,hra,hrm,b1,b2,g1,g2,hdm,YE]
  repeat refine peel ?_
  apply V;clear V K;refine Za fun K5 hK5=> ?_;refine rg zs [3,4,5,6,10,14,16,17,19,21,22,71] ?_;refine Zb ?_ ?_<;>intro hb
  ·have hco:XR fs.length q x last (Zv q).1 (Zv q).2.1=false:=osb;rw[if_pos hco]at hzz;refine rg zs [10,11,12] ?_;refine ar ?_;rw[←hzz];refine⟨_,rfl,fun k hk=> ?_,frz_pgZ _ _ _ _⟩;refine ohx ?_;exact hlow k hk
  have hco:XR fs.length q x last (Zv q).1 (Zv q).2.1=true:=osb;rw[if_neg (by simp[hco])]at hzz;obtain⟨h256,hfo⟩:=comes_true hco;refine ak ?_;apply hK5;refine rc zs [3,4,5,6,10,14,16,17,19,21,22,24] func89 ((Jg q x.row _ _)) ?_;refine Za fun K6 hK6=> ?_;refine rg zs [3,4,5,6,10,14,16,17,19,21,22,80] ?_;refine Zb ?_ ?_<;>intro hb
  ·have has:YX q x.row=false:=osb;rw[if_pos has]at hzz;refine rg zs [10,19,21] ?_;refine rg zs [10,11,12] ?_;refine ar ?_;rw[←hzz];refine⟨_,rfl,fun k hk=> ?_,frz_pg true _ _ (ver:=ver) (k:=n+4) (ohx b5) om .nilsl⟩;refine ohx ?_;exact hlow k hk
  have has:¬YX q x.row=false:=osb;rw[if_neg has]at hzz;refine ak ?_;apply hK6;refine rg zs [3,4,5,6,10,14,16,17,19,20,21,22] ?_;refine rc zs [3,4,5,6,10,14,16,17,19,20,21,22,25] func90 ((PV fs hfs q hqf.fams x hrx.2.1 hrx.2.2 hfo ⟨hsc,parse_ok hc0⟩ _ _)) ?_;refine Za fun K7 hK7=> ?_;refine rg zs [3,4,5,6,10,14,16,17,19,20,21,22,25,93] ?_;refine Zb ?_ ?_<;>intro hb
  ·have hch:ZI q (Z6 fs q) x.cells=[]:=osb;rw[if_pos hch]at hzz;refine Yl [3,4,5,6,10,14,16,17,19,20,21] ?_;simp only[go_sem,seval];refine ax ?_;apply hK4;refine rg1 zs [3,4,5,6,10,14,16,17,19,20,21] ?_
   first
   | (refine ⟨⟨m + 1, ver, some x.row, acc, om, om, osi, rfl, ?_⟩, om⟩
      (repeat' apply And.intro)<;>first | rfl | exact hzz | ((try simp only[Rl]);(repeat first | rw[if_pos rfl] | rw[if_pos trivial] | rw[if_neg om]);first | done | exact b1 | exact b2 | exact b3 | exact b4 | exact b5) | (intro k hk;refine ohx ?_;exact hlow k hk) | (intro k hk;exact hlow k hk) | omega)
  have hch:¬ZI q (Z6 fs q) x.cells=[]:=osb;rw[if_neg hch]at hzz;refine ak ?_;apply hK7;refine dx zs [3,4,5,6,10,14,16,17,19,20,21,22] [.q,.q,.q,.q,.q,.q,.q,.c,.m,.q,.q,.w [],.q,.w []] [0,1,2,3,4,5,6,7,8,9,10,11,12,13] [0,1,2,3,4,5,6,7,8,9,10,11,12,13] fun K V=> ?_;refine cq func58 (fun _ n=>(Qt x.row om _ _)) ?_;apply V;clear V K;rw[List.take_of_length_le (show(acc.map Zf).length≤acc.length by simp)];refine ZG (fun H' n'=>H' n=some (.arr 0 1 [Zh fs])∧H' (n+1)=some (.arr 0 10 [Ze q])∧H' (n+2)=some (.arr 0 3 [.agg [.nilsl,.nilsl,.bool false]])∧H' (n+3)=some (.arr 0 3 [.agg [.osl (n+4) (ver+1) 0 (acc.length+1),.nilsl,.bool false]])∧H' (n+4)=some (.arr (ver+1) 2 ((acc++[(⟨x.row,ZI q (Z6 fs q) x.cells⟩:RowE)]).map Zf))∧(∀k,k<n→H' k=H k)∧n+5≤n'∧H' n1=some (.arr 0 2 [Zf x])) ⟨ohx b1,ohx b2,ohx b3,oh,by refine ohx ?_;rw[qj];rfl,fun k hk=>ohx (hlow k hk),om,ohr⟩ fun H5 n5 ⟨b1,b2,b3,b4,b5,hlow,hn5,b6⟩=> ?_;refine rg zs [3,4,5,6,10,14,16,17,19,20,21,22,112] ?_;refine Zb ?_ ?_<;>intro hb
  ·have hrn:((acc.length+1:Nat):Int)=q.rows:=osb;rw[if_pos hrn]at hzz;refine Zg zs [10,19,21] fun K V=> ?_
   try simp only[go_sem,seval,hszs,hags,hmos,hszq,hagq,hmoq,hrs,hra,hrm,f1,f2,f3,b1,b2,b3,b4,b5,b6,hnth,e1,g1,g2,g3,g4,g5,Yt,YE,qg,qb,qd,Zf,Ze,Zx,bys,hszs,hags,hmos,hszq,hagq,hmoq,hrs,hra,hrm,b2,b4,b6,Zf]
   repeat refine peel ?_
   refine Zu func91 rfl rfl rfl ((JZ q hqf (atE q clock).1 x.row h256 _ _)) ?_
   try simp only[go_sem,seval,hszs,hags,hmos,hszq,hagq,hmoq,hrs,hra,hrm,f1,f2,f3,b1,b2,b3,b4,b5,b6,hnth,e1,g1,g2,g3,g4,g5,Yt,YE,qg,qb,qd,Zf,Ze,Zx,bys,hszs,hags,hmos,hszq,hagq,hmoq,hrs,hra,hrm,b2,b4,b6,Zf]
   repeat refine peel ?_
   apply V;clear V K;refine rg zs [10,11,12] ?_;refine ar ?_
   first
   | (rw [← hzz]
      have hal:acc.length+1=(acc++[(⟨x.row,ZI q (Z6 fs q) x.cells⟩:RowE)]).length:=osi;rw[hal];refine⟨_,rfl,fun k hk=> ?_,frz_pg (acc:=acc++[(⟨x.row,ZI q (Z6 fs q) x.cells⟩:RowE)]) (tok:=tokB q (atE q clock).1 x.row) false _ _ (ver:=ver+1) (k:=n+4) ?_ om (.kl (Xg _ _))⟩
      ·refine ohx ?_;exact hlow k hk
      ·refine ohx ?_;exact b5)
  have hrn:¬((acc.length+1:Nat):Int)=q.rows:=osb;rw[if_neg hrn]at hzz;refine Yl [3,4,5,6,10,14,16,17,19,20,21] ?_;simp only[go_sem,seval];refine ak ?_;apply hK4;refine rg1 zs [3,4,5,6,10,14,16,17,19,20,21] ?_
  first
  | (refine ⟨⟨m + 1, ver + 1, some x.row, acc ++ [(⟨x.row, ZI q (Z6 fs q) x.cells⟩ : RowE)], om, by rw [qe]; simp; omega, osi, rfl, ?_⟩, om⟩
     (repeat' apply And.intro)<;>first | rfl | exact hzz | ((try simp only[Rl]);(repeat first | rw[if_pos rfl] | rw[if_pos trivial] | rw[if_neg om]);first | done | exact b1 | exact b2 | exact b3 | exact b4 | exact b5) | (intro k hk;refine ohx ?_;exact hlow k hk) | (intro k hk;exact hlow k hk) | omega | (rw[qe];rfl) | (rw[qe];exact b4))
 have hci:m=rows.length:=otf;rw[List.drop_eq_nil_of_le om]at hzz;unfold MF at hzz;have e1:IntKind.i64.wrap ((rows.length:Int)+1)=((m+1:Nat):Int):=by rw[hci];exact w1 om
 refine ax ?_;apply hK2;refine Za fun K8 hK8=> ?_;refine rg zs [3,4,10,19,123] ?_;refine Zb ?_ ?_<;>intro hb
 ·rw[if_pos osb]at hzz;refine rg zs [10,11,12] ?_;refine ar ?_;rw[←hzz];refine⟨_,rfl,fun k hk=> ?_,frz_pgZ _ _ _ _⟩;refine ohx ?_;exact hlow k hk
 rw[if_neg osb]at hzz;refine ak ?_;apply hK8;refine rg zs [3,10,19] ?_;refine rg zs [10,11,12] ?_;refine ar ?_;rw[←hzz];refine⟨_,rfl,fun k hk=> ?_,frz_pg true _ _ (ver:=ver) (k:=n+4) (ohx b5) om .nilsl⟩;refine ohx ?_;exact hlow k hk
theorem lists_eq{α:Type}[Inhabited α]{a b:List α}(hl:a.length=b.length)(h:∀j,j<a.length→a.getD j default=b.getD j default):a=b:=
 List.ext_getElem hl fun i h1 h2=>by have:=h i h1;simpa [List.getD,List.getElem?_eq_getElem h1,List.getElem?_eq_getElem h2]using this
theorem celE_eq(a b:CelE):(a=b)↔a.fam=b.fam∧a.ts=b.ts∧a.qual=b.qual∧a.value=b.value:=by
 cases a;cases b;simp only[CelE.mk.injEq];constructor<;>(rintro⟨h1,h2,h3,h4⟩;exact⟨h1,by assumption,by assumption,by assumption⟩)
theorem ND60.eqs{P Q:Prop}(g:Imp P Q:=by(try simp only[go_sem,seval,hcs,hca,hcm,m1,m2,e1,qb,qd,Zj]);exact Imp.rf):Imp P Q:=g
theorem ND60.sd{P:Prop}(g:P:=by first | exact⟨om,om⟩ | exact fun _=>⟨om,om⟩ | (intro _ h9;rw[h9];rfl) | fail):P:=g
set_option maxRecDepth 100000 in
set_option maxHeartbeats 3200000 in
open ND60 NZ in
theorem Lf(a b:List CelE)(ha:a.length≤1048576)(hb9:b.length≤1048576)(H:Heap)(n:Nat):Ret prog 75 [.sl 4 (a.map Zj),.sl 4 (b.map Zj)] H n (.bool (decide (a=b))) H n:=by
 have hcs:∀c,(Zj c).sz=4:=Yp;have hca:∀c,(Zj c).isAgg=true:=fun _=>rfl;have hcm:∀c,(Zj c).memOK=true:=fun _=>rfl;have m1:=hcs;have m2:=hcs;have e1:=hcs;refine fw func75 ntmps75 results75 ?_;refine kb1 ?_;refine Za fun K1 hK1=> ?_;refine rg zs [0,1,10] ?_;refine Zb ?_ ?_<;>intro hb
 ·have hlen:a.length≠b.length:=by have h9:=hb;simp at h9;omega
  have hres:decide (a=b)=false:=decide_eq_false fun e=>hlen (by rw[e]);refine kag ?_;rw[hres]
 have hlen:a.length=b.length:=by have h9:=hb;simp at h9;omega
 refine kay ?_;refine Za fun K2 hK2=> ?_;refine rg zs [0,1,5] ?_;refine kbM ?_;refine Zk (fun T' H' n'=>∃i:Nat,i≤a.length∧(∀j,j<i→a.getD j default=b.getD j default)∧T'=tl [(0,.sl 4 (a.map Zj)),(1,.sl 4 (b.map Zj)),(5,.int .i64 i)]∧H'=H∧n'=n) (fun T' _ _=>a.length-iv (T' 5)) ?_ ?_
 ·exact kcy
 rintro T1 H1 n1 ⟨i,hi,hfa,rfl,rfl,rfl⟩;refine Za fun K3 hK3=> ?_;refine rg zs [0,1,5,14] ?_;refine Zb ?_ ?_<;>intro hb
 ·have hci:i<a.length:=ott;have m1:nth (a.map Zj) i=Zj (a.getD i default):=Zr Zj a i hci;have m2:nth (b.map Zj) i=Zj (b.getD i default):=Zr Zj b i om;have e1:IntKind.i64.wrap ((i:Int)+1)=((i+1:Nat):Int):=w1 om;obtain⟨x,hx⟩:∃x,x=a.getD i default:=⟨_,rfl⟩;obtain⟨y,hy⟩:∃y,y=b.getD i default:=⟨_,rfl⟩;rw[←hx]at m1;rw[←hy]at m2;refine kba ?_;refine bk fun K4 hK4=> ?_;refine dx zs [0,1,5,68] [.m,.m,.q,.q,.q,.m,.m,.q,.q,.q,.q,.m,.m,.m,.q,.q,.q,.m,.m,.q,.q,.q,.q,.q,.m,.m,.m,.q,.q,.q,.m,.m,.q,.q,.q,.c,.q,.q,.m,.m,.m,.q,.q,.q,.m,.m,.q,.q,.q,.c,.q,.q] [0,1,2,3,4,5,6,7,8,9,10,11,12,13,14,15,16,17,18,19,20,21,22,23,24,25,26,27,28,29,30,31,32,33,34,35,36,37,38,39,40,41,42,43,44,45,46,47,48,49,50,51] [0,1,2,3,4,5,6,7,8,9,10,11,12,13,14,15,16,17,18,19,20,21,22,23,24,25,26,27,28,29,30,31,32,33,34,35,36,37,38,39,40,41,42,43,44,45,46,47,48,49,50,51] fun K V=> ?_;refine cq func46 (fun _ n=>(Xm x.qual y.qual _ _)) ?_;refine cq func46 (fun _ n=>(Xm x.value y.value _ _)) ?_;refine kas ?_;refine Zb ?_ ?_<;>intro hb
  ·have hne : a ≠ b := fun e => by
     subst e;have:x=y:=hx.trans hy.symm;subst this;simp at hb
   have hres:decide (a=b)=false:=decide_eq_false hne;refine rg zs [4] ?_;refine ar ?_;rw[hres]
  have hxy:x=y:=by
    refine(celE_eq x y).2 ?_;have h9:=hb;simp at h9;exact⟨h9.1.1.1,h9.1.1.2,h9.1.2,h9.2⟩
  exact kbi
 have hci:i=a.length:=otf;have hres:decide (a=b)=true:=decide_eq_true (lists_eq hlen (hci▸hfa));refine ax ?_;apply hK2;refine kag ?_;rw[hres]
theorem ND61.eqs{P Q:Prop}(g:Imp P Q:=by(try simp only[go_sem,seval,hcs,hca,hcm,m1,m2,e1,qb,qd,Zf]);exact Imp.rf):Imp P Q:=g
theorem ND61.sd{P:Prop}(g:P:=by first | exact⟨om,om⟩ | exact fun _=>⟨om,om⟩ | (intro _ h9;rw[h9];rfl) | fail):P:=g
open ND61 NZ in
theorem U1(a b:List RowE)(ha:a.length≤1048576)(hb9:b.length≤1048576)(hac:∀x∈a,x.cells.length≤1048576)(hbc:∀x∈b,x.cells.length≤1048576)(H:Heap)(n:Nat):Ret prog 43 [.sl 2 (a.map Zf),.sl 2 (b.map Zf)] H n (.bool (decide (a=b))) H n:=by
 have hcs:∀c,(Zf c).sz=2:=Ws;have hca:∀c,(Zf c).isAgg=true:=fun _=>rfl;have hcm:∀c,(Zf c).memOK=true:=fun _=>rfl;have m1:=hcs;have m2:=hcs;have e1:=hcs;refine fw func43 ntmps43 results43 ?_;refine kb1 ?_;refine Za fun K1 hK1=> ?_;refine rg zs [0,1,10] ?_;refine Zb ?_ ?_<;>intro hb
 ·have hlen:a.length≠b.length:=by have h9:=hb;simp at h9;omega
  have hres:decide (a=b)=false:=decide_eq_false fun e=>hlen (by rw[e]);refine kag ?_;rw[hres]
 have hlen:a.length=b.length:=by have h9:=hb;simp at h9;omega
 refine kay ?_;refine Za fun K2 hK2=> ?_;refine rg zs [0,1,5] ?_;refine kbM ?_;refine Zk (fun T' H' n'=>∃i:Nat,i≤a.length∧(∀j,j<i→a.getD j default=b.getD j default)∧T'=tl [(0,.sl 2 (a.map Zf)),(1,.sl 2 (b.map Zf)),(5,.int .i64 i)]∧H'=H∧n'=n) (fun T' _ _=>a.length-iv (T' 5)) ?_ ?_
 ·exact kcy
 rintro T1 H1 n1 ⟨i,hi,hfa,rfl,rfl,rfl⟩;refine Za fun K3 hK3=> ?_;refine rg zs [0,1,5,14] ?_;refine Zb ?_ ?_<;>intro hb
 ·have hci:i<a.length:=ott;have m1:nth (a.map Zf) i=Zf (a.getD i default):=Zr Zf a i hci;have m2:nth (b.map Zf) i=Zf (b.getD i default):=Zr Zf b i om;have e1:IntKind.i64.wrap ((i:Int)+1)=((i+1:Nat):Int):=w1 om;have hac1:=hac _ (Yj a hci);have hbc1:=hbc _ (Yj b (show i<b.length by omega));obtain⟨x,hx⟩:∃x,x=a.getD i default:=⟨_,rfl⟩;obtain⟨y,hy⟩:∃y,y=b.getD i default:=⟨_,rfl⟩;rw[←hx]at m1 hac1;rw[←hy]at m2 hbc1;refine kba ?_;refine bk fun K4 hK4=> ?_;refine dx zs [0,1,5,42] [.m,.m,.q,.q,.q,.m,.m,.q,.q,.q,.c,.q,.m,.m,.m,.q,.q,.q,.m,.m,.q,.q,.q,.c,.q,.q] [0,1,2,3,4,5,6,7,8,9,10,11,12,13,14,15,16,17,18,19,20,21,22,23,24,25] [0,1,2,3,4,5,6,7,8,9,10,11,12,13,14,15,16,17,18,19,20,21,22,23,24,25] fun K V=> ?_;refine cq func46 (fun _ n=>(Xm x.row y.row _ _)) ?_;refine cq func75 (fun _ n=>(Lf x.cells y.cells hac1 hbc1 _ _)) ?_;refine kas ?_;refine Zb ?_ ?_<;>intro hb
  ·have hne : a ≠ b := fun e => by
     subst e;have:x=y:=hx.trans hy.symm;subst this;simp at hb
   have hres:decide (a=b)=false:=decide_eq_false hne;refine rg zs [4] ?_;refine ar ?_;rw[hres]
  have hxy:x=y:=by
    have h9:=hb;simp at h9;cases x;cases y;simp only[RowE.mk.injEq];exact h9
  exact kbi
 have hci:i=a.length:=otf;have hres:decide (a=b)=true:=decide_eq_true (lists_eq hlen (hci▸hfa));refine ax ?_;apply hK2;refine kag ?_;rw[hres]
theorem pgE_eq(a b:PgE):(a=b)↔a.done=b.done∧a.token=b.token∧a.rows=b.rows:=by
 cases a;cases b;simp only[PgE.mk.injEq];constructor<;>(rintro⟨h1,h2,h3⟩;exact⟨by assumption,by assumption,by assumption⟩)
theorem ND62.eqs{P Q:Prop}(g:Imp P Q:=by(try simp only[go_sem,seval,hza,hzb,f1,pgAV,bys]);exact Imp.rf):Imp P Q:=g
theorem ND62.sd{P:Prop}(g:P:=by first | (intro _ h9;rw[h9];rfl) | fail):P:=g
open ND62 NZ in
theorem Mm(a b:PgE)(ha:a.rows.length≤1048576)(hb9:b.rows.length≤1048576)(hac:∀x∈a.rows,x.cells.length≤1048576)(hbc:∀x∈b.rows,x.cells.length≤1048576)(H:Heap)(n:Nat):Ret prog 21 [pgAV a,pgAV b] H n (.bool (decide (a=b))) H n:=by
 have hza:(pgAV a).sz=3:=rfl;have hzb:(pgAV b).sz=3:=rfl;have f1:(n=n+1)=False:=osi;refine Ret.fin ?_;refine fw func21 ntmps21 results21 ?_;refine rg zs [2,3] ?_;refine rk zs [4] fun K V=> ?_;refine cg func46 (fun _=>(Xm a.token b.token _ _)) ?_;refine cg func43 (fun _=>(U1 a.rows b.rows ha hb9 hac hbc _ _)) ?_;refine kas ?_;refine ar ?_;refine⟨_,rfl,fun k hk=>oh,Frz.eq ?_ trivial⟩;rw[show decide (a=b)=decide (a.done=b.done∧a.token=b.token∧a.rows=b.rows)from decide_eq_decide.2 (pgE_eq a b)];by_cases h1:a.done=b.done<;>by_cases h2:a.token=b.token<;>by_cases h3:a.rows=b.rows<;>simp[h1,h2,h3]
open N0 in
theorem Qx(a b:List UInt8)(H:Heap)(n:Nat):Ret prog 26 [bys a,bys b] H n (.bool (a==b)) H n:=by
 refine fw func26 ntmps26 results26 ?_;refine kb1 ?_;refine rc zs [4] func46 ((Xm a b _ _)) ?_;refine ar ?_;trivial
open N0 in
theorem Wj(e:Int)(H:Heap)(n:Nat):Ret prog 20 [.int .i64 e] H n (.int .i64 e) H n:=by
 refine fw func20 ntmps20 results20 ?_;refine kcu ?_;refine kal ?_;trivial
theorem NE10.eqs{P Q:Prop}(g:Imp P Q:=by(try simp only[go_sem,seval,hza,haa,hma,hzb,hab,hmb,f1,m1,m2,e1,Ze,Zx,bys,qb,qd]);exact Imp.rf):Imp P Q:=g
structure LdS(q:QryE)(k1 k2 k3 k4 kw kf vf:Nat)(H:Heap):Prop where
 h1:H k1=some (Ud (k1,q.frm))
 h2:H k2=some (Ud (k2,q.to))
 h3:H k3=some (Ud (k3,q.pre))
 h4:H k4=some (Ud (k4,q.token))
 hw:H kw=some (.arr 0 1 [WM (k1,q.frm),WM (k2,q.to),WM (k3,q.pre),WM (k4,q.token)])
 hf:H kf=some (.arr vf 1 ((q.fams++[-77]).map fun x:Int=>(.int .i64 x:AV)))
 d:(k1≠k2∧k1≠k3∧k1≠k4∧k2≠k3∧k2≠k4∧k3≠k4)∧(kw≠k1∧kw≠k2∧kw≠k3∧kw≠k4)∧(kf≠k1∧kf≠k2∧kf≠k3∧kf≠k4∧kf≠kw)
def laidQ(q:QryE)(k1 k2 k3 k4 kf vf:Nat):AV:=qaX q (.osl k1 2 0 q.frm.length) (.osl k2 2 0 q.to.length) (.osl kf vf 0 q.fams.length) (.osl k3 2 0 q.pre.length) (.osl k4 2 0 q.token.length)
def laidAV(q:QryE)(k1 k2 k3 k4 kw kf vf:Nat):AV:= .agg [laidQ q k1 k2 k3 k4 kf vf,.osl kw 0 0 4,.osl kf vf 0 (q.fams.length+1)]
theorem NE20.eqs{P Q:Prop}(g:Imp P Q:=by(try simp only[go_sem,seval,hsz,hag,hmo,f1,f2,f3,f4,f5,hE,Ze,Zx,bys,qg,qb,qe,qd,Option.getD_some,Option.getD_none,Nat.sub_zero]);exact Imp.rf):Imp P Q:=g
theorem NE21.eqs{P Q:Prop}(g:Imp P Q:=by(try simp only[go_sem,seval,hsz,hag,hmo,f1,f2,b1,b2,b3,b4,g1,g2,g3,g4,hnth,e1,e2,e3,e4,hfn,hf0,g5,g6,hpo1,laidAV,laidQ,qaX,Ze,Zx,bys,WM,qg,qb,qe,qi,List.length_nil,qd,Option.getD_some,Option.getD_none,Nat.zero_add]);exact Imp.rf):Imp P Q:=g
theorem NE30.eqs{P Q:Prop}(g:Imp P Q:=by(try simp only[go_sem,seval,hO,hW,hT,hrs,e1,e2,e3,e4,e5,g5,g6,hnth,hpo1,b1,b2,b4,WM,qg,qb,qe,qi,List.length_nil,qd,Option.getD_some,Option.getD_none,Nat.zero_add]);exact Imp.rf):Imp P Q:=g
theorem kl_pg(p:PgE)(n:Nat):(pgAV p).kl n:=⟨Xq Zf (fun x=>Pj x n) _,Xg _ _,trivial,trivial⟩
theorem NE40.eqs{P Q:Prop}(g:Imp P Q:=by(try simp only[go_sem,seval,hszs,hags,hmos,hszq,hagq,hmoq,hszp,hagp,hmop,f1,f2,f3,b1,b2,b3,b4,b5,b6,d1,d2,d3,d5,e1,e2,e3,e4,qg,qb,qd,Option.getD_some,Option.getD_none]);exact Imp.rf):Imp P Q:=g
end Go.Proofs.YtkmkbndcekklmaaGreatDoor
namespace Go.Sx
open Go
end Go.Sx
set_option maxRecDepth 10000
namespace Go.Proofs.YtkmkbndcekklmaaGreatDoor
open Go Go.Sx Go.Rt Go.Proofs Tryz
theorem _root_.Go.Sx.Zn.adoptO{P : Program}{f : FuncId}{args : List AV}{H : Heap}{n : Nat}{K : ARes → Heap → Nat → Prop}(k esz : Nat){ver e : Nat}{els els' : List AV}(hk : H k = some (.arr ver e els))(ha : AdpL n els els')
   (h:Zn P f args ((H.put n (some (.arr 0 esz []))).put k (some (.arr ver e els'))) (n+1) K):Zn P f args H n K:=fun c w vs hs hr=>by
 have hst:=RN hs esz;have hkn:k≠n:=fun e=>by subst e;rw[(hs.fresh _ (Nat.le_refl _)).1]at hk;simp at hk
 have hst2:=Step.retell (els':=els') hst.sim (k:=k) (by rw[Rk _ _ hkn];exact hk) (fun ds hd=>ha.relF Rn hd) ha.len.symm ha.szAll;exact(h _ w vs (hst.trans hst2).sim (RelT.mono (hst.trans hst2).le _ _ hr)).mono fun e w' ⟨res,c',H',n',V,hst3,hm⟩=>⟨res,c',H',n',V,(hst.trans hst2).trans hst3,hm⟩
def srcN(rows:List RowE)(err:Int):AObj:= .arr 0 5 [.agg [.sl 2 (rows.map Zf),.int .i64 err,.int .i64 0,.nilsl,.nilsl]]
def RunO(ks:Nat)(z:PgE×Nat×Int)(H:Heap)(n:Nat)(res:ARes)(H':Heap)(n':Nat):Prop:=
 n≤n'∧(∀k,k<n→k≠ks→H' k=H k)∧∃a pk,res= .val (.tup [a,.int .i64 z.2.2])∧Own H' a (pgAV z.1) pk∧pk.Nodup∧(∀k∈pk,n≤k∧k<n')
def RunP(ks:Nat)(z:PgE×Nat×Int)(H:Heap)(n:Nat)(res:ARes)(H':Heap)(n':Nat):Prop:=
 n≤n'∧(∀k,k<n→k≠ks→H' k=H k)∧res= .val (.tup [pgAV z.1,.int .i64 z.2.2])
theorem RunO.frz{ks:Nat}{z:PgE×Nat×Int}{H:Heap}{n:Nat}{P:Program}{f:FuncId}{args:List AV}(h:Zn P f args H n (RunO ks z H n)):Zn P f args H n (RunP ks z H n):=
 h.frzS fun res H1 n1 ⟨h1,h2,a,pk,hr,ho,hd,hp⟩=>by
   have e:=RS (j:= .i64) (y:=z.2.2) ho;exact⟨_,_,fun k=>k∈pk,inferInstance,hr,FzO.own e (fun k hk=>hk),h1,fun k a b=>(Heap.dropS_ne (S:=fun k=>k∈pk) (fun hm=>by have:=hp k hm;omega)).trans (h2 k a b),rfl⟩
theorem Mx(fs : List Fml)(hfs : fs.length ≤ 1048576)(q : QryE)(hqf : q.fine)(clock : Int)(rows : List RowE)(err : Int)(hrw : YA rows)(ks : Nat){H : Heap}{n : Nat}(hG : GOK 1 1 H n)(hs : H ks = some (srcN rows err)):
   Zn prog 18 [Zh fs,Ze q,.int .i64 clock,.iface 52 (.loc ks 0 0 0 [])] H n (RunO ks (runE fs q clock (some (rows,err))) H n):=
 Zn.below hs fun hks=>by
   refine Zn.adoptO ks 1 (ver:=0) (e:=5) (els:=[.agg [.sl 2 (rows.map Zf),.int .i64 err,.int .i64 0,.nilsl,.nilsl]]) (els':=[.agg [.sl 2 (rows.map Zf),.int .i64 err,.int .i64 0,.osl n 0 0 0,.nilsl]]) hs ⟨Adp.agg ⟨.refl _ _,.refl _ _,.refl _ _,Adp.nilsl _,.refl _ _,trivial⟩,trivial⟩ ?_;refine Zn.adoptO ks 2 (ver:=0) (e:=5) (els:=[.agg [.sl 2 (rows.map Zf),.int .i64 err,.int .i64 0,.osl n 0 0 0,.nilsl]]) (els':=[UT rows err 0 n 0 0 (n+1) 0 0]) (Rm _ _ _) ⟨Adp.agg ⟨.refl _ _,.refl _ _,.refl _ _,.refl _ _,Adp.nilsl _,trivial⟩,trivial⟩ ?_;obtain⟨H2,hH2⟩:∃x,x=(((((H.put n (some (.arr 0 1 []))).put ks (some (.arr 0 5 [.agg [.sl 2 (rows.map Zf),.int .i64 err,.int .i64 0,.osl n 0 0 0,.nilsl]]))).put (n+1) (some (.arr 0 2 []))).put ks (some (.arr 0 5 [UT rows err 0 n 0 0 (n+1) 0 0]))):Heap):=⟨_,rfl⟩;rw[←hH2];have g1:H2 ks=some (.arr 0 5 [UT rows err 0 n 0 0 (n+1) 0 0]):=by rw[hH2];(try simp only[Rl]);(repeat first | rw[if_pos rfl] | rw[if_pos trivial] | rw[if_neg om])
   have g2:H2 n=some (.arr 0 1 []):=by rw[hH2];(try simp only[Rl]);(repeat first | rw[if_pos rfl] | rw[if_pos trivial] | rw[if_neg om])
   have g3:H2 (n+1)=some (.arr 0 2 []):=by rw[hH2];(try simp only[Rl]);(repeat first | rw[if_pos rfl] | rw[if_pos trivial] | rw[if_neg om])
   have g4:∀k,k<n→k≠ks→H2 k=H k:=fun k a b=>by rw[hH2];(try simp only[Rl]);(repeat first | rw[if_pos rfl] | rw[if_pos trivial] | rw[if_neg om])
   have hne:∀g o,H g=some (.glob o Ux)→g≠ks:=fun g o hg e=>by rw[e,hs]at hg;cases hg
   have hne2:∀g o,H g=some (.glob o LZ)→g≠ks:=fun g o hg e=>by rw[e,hs]at hg;cases hg
   have hG2:GOK 1 1 H2 (n+1+1):=hG.at2 (by
     by_cases hn:(1:Nat)=1
     ·rw[hn];exact g4 _ hG.get (hne _ _ hG.table)
     ·exact g4 _ hG.gek (hne2 _ _ (hG.kindsC hn))) (g4 _ hG.get (hne _ _ hG.table)) om
   have hS:SrcS rows err ks n (n+1) (n+2) 0 0 0 [] [] [] H2 (n+1+1):=⟨g1,g2,fun p hp=>(by cases hp),fun p hp=>(by cases hp),osi,g3,Pile.nil _ _ _,om,fun p hp=>(by cases hp)⟩;refine(x_query_Run fs hfs q hqf clock rows err hrw ks n (n+1) (n+2) 0 0 hG2 (QL.ro q H2) (fun j hj=>by cases hj) hS).mono ?_;rintro res H3 n3 ⟨h1,h2,a,pk,vw,vt,kb,tels,tk,hr,ho,hd,hp,_⟩;exact⟨om,fun k a b=>(h2 k om b om om).trans (g4 k a b),a,pk,hr,ho,hd,fun k hk=>by have:=hp k hk;omega⟩
theorem Vg(fs:List Fml)(hfs:fs.length≤1048576)(q:QryE)(hqf:q.fine)(clock:Int)(rows:List RowE)(err:Int)(hrw:YA rows)(ks:Nat){H:Heap}{n:Nat}(hG:GOK 1 1 H n)(hs:H ks=some (srcN rows err)):
 Zn prog 18 [Zh fs,Ze q,.int .i64 clock,.iface 52 (.loc ks 0 0 0 [])] H n (RunP ks (runE fs q clock (some (rows,err))) H n):=RunO.frz (Mx fs hfs q hqf clock rows err hrw ks hG hs)
theorem NE50.eqs{P Q:Prop}(g:Imp P Q:=by(try simp only[go_sem,seval,hszs,hags,hmos,hszq,hagq,hmoq,f1,f2,f4,qg,qb,qd]);exact Imp.rf):Imp P Q:=g
def twoF:List Fml:=[⟨[97],3,0⟩,⟨[98],3,0⟩]
def WR(i:Nat):RowE:=⟨[114,UInt8.ofNat (49+i)],[⟨0,[120],5,[49]⟩,⟨1,[121],4,[50]⟩]⟩
def Z5:List RowE:=[WR 0,WR 1,WR 2]
open N0 in
theorem Xn(H:Heap)(n:Nat):Ret prog 14 [] H n (Zh twoF) H n:=by
 refine Ret.fin ?_;refine fw func14 ntmps14 results14 ?_;refine rg zs [0] ?_;refine rg zs [0] ?_;refine ar ?_;exact⟨_,rfl,fun k hk=>oh,.kl (kl_sch twoF _)⟩
theorem plain_at{i:Nat}(h:i<3):Z5.getD i default=WR i:=by rcases i with _ | _ | _ | i<;>first | rfl | omega
theorem plain_byte{i:Nat}(h:i<3):Zd (UInt8.ofNat (49+i))= .int .u8 ((49+i:Nat):Int):=by rcases i with _ | _ | _ | i<;>first | rfl | omega
theorem NE60.eqs{P Q:Prop}(g:Imp P Q:=by(try simp only[go_sem,seval,e1,e2,e3,e4,g1,g2,g3,g4,g5,g6,hst,qg]);exact Imp.rf):Imp P Q:=g
theorem NE60.inz{P Q:Prop}(g:Imp P Q:=by refine Imp.up eqs ?_;(repeat (first | (refine Imp.nd ?_ ?_;· first | exact⟨rfl,fun x hx=>by simp only[List.mem_cons,List.not_mem_nil,or_false]at hx;rcases hx with rfl | rfl<;>exact⟨rfl,rfl⟩⟩ | exact⟨1,rfl,rfl⟩) | refine Imp.pl ?_));exact Imp.rf):Imp P Q:=g
set_option maxHeartbeats 1600000 in
open NE60 in
theorem JS(H:Heap)(n:Nat):Zn prog 17 [] H n (fun res H' n'=>res= .val (.osl n 3 0 3)∧H' n=some (.arr 3 2 (Z5.map Zf))∧(∀k,k<n→H' k=H k)∧n'=n+19):=by
 have e1:n=n:=rfl;have e2:n=n:=rfl;have e3:n=n:=rfl;have e4:n=n:=rfl;have g6:n=n:=rfl;have hst:n=n:=rfl;have g1:∀k:Nat,(k=k+1)=False:=fun k=>by simp
 have g2:∀k:Nat,(k=k+2)=False:=fun k=>by simp
 have g3:∀k:Nat,(k=k+3)=False:=fun k=>by simp
 have g4:∀k:Nat,(k=k+4)=False:=fun k=>by simp
 have g5:∀k:Nat,(k=k+5)=False:=fun k=>by simp
 refine fw func17 ntmps17 results17 ?_;refine rg zs [] ?_;refine rg zs [1] ?_;refine Za fun K1 hK1=> ?_;refine ZN 1 2 rfl ?_;refine rg zs [1,2] ?_;refine Zq ?_;refine Zk (fun T' H' n'=>∃i:Nat,i≤3∧T'=tl [(1,.osl n i 0 i),(2,.int .i64 i)]∧H' n=some (.arr i 2 ((Z5.take i).map Zf))∧(∀k,k<n→H' k=H k)∧n'=n+1+6*i) (fun T' _ _=>3-iv (T' 2)) ?_ ?_
 ·exact⟨0,by omega,rfl,by(try simp only[Rl]);(repeat first | rw[if_pos rfl] | rw[if_pos trivial] | rw[if_neg (by omega)]);rfl,fun k hk=>by(try simp only[Rl]);(repeat first | rw[if_pos rfl] | rw[if_pos trivial] | rw[if_neg (by omega)]),rfl⟩
 rintro T1 H1 n1 ⟨i,hi,rfl,b1,hlow,hn1⟩;refine Za fun K2 hK2=> ?_;refine rg zs [1,2,5] ?_;refine Zb ?_ ?_<;>intro hb
 ·have hci:i<3:=by have:=of_decide_eq_true hb;omega
  have e1:IntKind.i64.wrap (49+(i:Int))=((49+i:Nat):Int):=by rw[w64 (by omega) (by omega)];omega
  have e2:IntKind.u8.wrap ((49+i:Nat):Int)=((49+i:Nat):Int):=by rcases i with _ | _ | _ | i<;>first | rfl | omega
  have e3:IntKind.i64.wrap ((i:Int)+1)=((i+1:Nat):Int):=w1 (by omega);have e4:(n=n1)=False:=by simp;omega
  refine ak ?_;apply hK2;refine bk fun K3 hK3=> ?_;refine rg zs [1,2,3] ?_;refine rg zo [1,2,3] ?_;refine Ub (n1+5) n1 (ver:=0) (e:=4) (els:=(WR i).cells.map Zj) (vj:=0) (ej:=2) (lj:=[.agg [.sl 1 [.int .u8 114,.int .u8 ((49+i:Nat):Int)],.osl (n1+5) 0 0 2]]) (lj':=[Zf (WR i)]) (by(try simp only[Rl]);(repeat first | rw[if_pos rfl] | rw[if_pos trivial] | rw[if_neg (by omega)]);rfl) (by(try simp only[Rl]);(repeat first | rw[if_pos rfl] | rw[if_pos trivial] | rw[if_neg (by omega)])) (by omega) ⟨FzV.agg ⟨?_,FzV.osl (off:=0) (len:=2) (by simp[WR]),trivial⟩,trivial⟩ ?_
  ·rw[←plain_byte hci];exact .refl _
  have g6:∀j:Nat,(n=n1+j)=False:=fun j=>by simp;omega
  have hst:strip true (Zf (WR i))=Zf (WR i):=rfl;have hl:(List.map Zf (List.take i Z5)).length=i:=by rw[qb,qk,show Z5.length=3 from rfl];omega
  have hrs:=Ws (WR i);have hrm:(Zf (WR i)).memOK=true:=rfl;have hra:(Zf (WR i)).isAgg=true:=rfl;refine ZP zs [1,2] fun K J=> ?_
  try simp only[go_sem,seval,e1,e2,e3,e4,g1,g2,g3,g4,g5,g6,hst,qg,hrs,hrm,hra,b1]
  repeat (first | (refine And.intro ?_ ?_;· first | exact⟨by omega,.inr trivial,by omega,by omega⟩ | exact⟨rfl,fun x hx=>by rw[List.mem_singleton.1 hx];exact⟨hrs,hrm⟩⟩) | refine peel ?_)
  apply J;clear J K;refine ns ?_;apply hK3;refine rg1 zs [1,2] ?_;refine⟨⟨i+1,by omega,rfl,?_,fun k hk=>by(try simp only[Rl]);(repeat first | rw[if_pos rfl] | rw[if_pos trivial] | rw[if_neg (by omega)]);exact hlow k hk,by omega⟩,by omega⟩;rw[UN Z5 (show i<Z5.length from hci),plain_at hci]
  (try simp only[Rl]);(repeat first | rw[if_pos rfl] | rw[if_pos trivial] | rw[if_neg (by omega)])
  rw[List.take_of_length_le (by omega),qj];rfl
 have hci:i=3:=by have:=of_decide_eq_false hb;omega
 subst hci;refine ax ?_;apply hK1;refine rg zs [0] ?_;refine ar ?_;exact⟨b1,hlow,by omega⟩
theorem UG(H:Heap)(n:Nat):Ret prog 17 [] H n (.sl 2 (Z5.map Zf)) H n:=
 Ret.fin ((JS H n).mono fun res H' n' ⟨h1,h2,h3,_⟩=>⟨_,h1,h3,.osl h2 (Nat.le_refl _) (Nat.le_refl _) (show FrzL H' n (Z5.map Zf) (Z5.map Zf)from XM _ (Xq Zf (fun x=>Pj x n) _))⟩)
theorem NE61.eqs{P Q:Prop}(g:Imp P Q:=by(try simp only[go_sem,seval,qb]);exact Imp.rf):Imp P Q:=g
open NE61 NY in
theorem Y9(b:List UInt8)(hb:b.length≤1099511627776)(H:Heap)(n:Nat):Ret prog 23 [bys b] H n (bys b) H n:=by
 have h9:=Uq b hb 0 b.length (Nat.zero_le _) (Nat.le_refl _) H n;rw[List.drop_zero,List.take_length]at h9;refine fw func23 ntmps23 results23 ?_;refine rg zs [0] ?_;refine rk zs [2] fun K J=> ?_;refine ck func58 (h9) ?_;apply J;clear J K;refine ar ?_;trivial
theorem NE62.eqs{P Q:Prop}(g:Imp P Q:=by(try simp only[go_sem,seval,hsz,hag,hmo,Ze,Zx,bys,qb,qd]);exact Imp.rf):Imp P Q:=g
theorem NE62.sd{P:Prop}(g:P:=by first | exact⟨.inr trivial,om,om⟩ | fail):P:=g
set_option maxHeartbeats 1600000 in
open NE62 NZ in
theorem P7(q:QryE)(hq:q.fine)(H:Heap)(n:Nat):Ret prog 32 [Ze q] H n (Ze q) H n:=by
 have hsz:(Ze q).sz=10:=ZT q;have hag:(Ze q).isAgg=true:=rfl;have hmo:(Ze q).memOK=true:=rfl;have h1:=hq.frm;have h2:=hq.to;have h3:=hq.pre;have h4:=hq.token;have h5:=hq.fams;refine Ret.fin ?_;refine fw func32 ntmps32 results32 ?_;refine rg zs [1,2] ?_;refine rk zs [1,2] fun K J=> ?_;refine ck func23 ((Y9 q.frm om _ _)) ?_;apply J;clear J K;refine rk zs [1,2] fun K J=> ?_;refine ck func23 ((Y9 q.to om _ _)) ?_;apply J;clear J K;refine rk zs [1,2] fun K J=> ?_;refine ck func23 ((Y9 q.pre om _ _)) ?_;apply J;clear J K;refine rk zs [1,2] fun K J=> ?_;refine ck func23 ((Y9 q.token om _ _)) ?_;apply J;clear J K;refine rg zs [1,2,3] ?_;refine rg zs [1,2] ?_;refine rg zs [2] ?_;refine ar ?_;exact⟨_,rfl,fun k hk=>oh,.kl (kl_qry q _)⟩
def q0:QryE:={frm:=[],to:=[],fams:=[],pre:=[],time:=0,n:=1,rows:=2,rev:=false,whr:=[118,97,108,117,101,32,61,32,34,49,34],token:=[]}
def pg0:PgE:=(runE twoF q0 9 (some (Z5,0))).1
def q1:QryE:={q0 with token:=pg0.token}
def pg1:PgE:=(runE twoF q1 99 (some (Z5.drop 2,0))).1
theorem st1:(runE twoF q0 9 (some (Z5,0))).2.2=0∧pg0.rows.length=2∧(pg0.rows.getD 0 default).cells.length=1∧pg0.done=false∧pg0.token.length≠0∧pg0.token.length≤1000:=by decide +kernel
theorem st2:Zv q1=([114,50,0],true,0):=by decide +kernel
theorem st3:(runE twoF q1 99 (some (Z5.drop 2,0))).2.2=0∧pg1.rows.length=1∧pg1.done=true∧pg1.token=[]:=by decide +kernel
theorem q0_fine:q0.fine:=⟨odc,odc,odc,odc,odc,odc⟩
theorem q1_fine:q1.fine:=⟨odc,odc,odc,odc,odc,by have:=st1.2.2.2.2.2;show pg0.token.length≤_;omega⟩
theorem Q3:YA Z5:=⟨odc,fun x hx=>by simp only[Z5,List.mem_cons,List.not_mem_nil,or_false]at hx;rcases hx with rfl | rfl | rfl<;>refine⟨odc,odc,fun c hc=> ?_⟩<;>simp only[WR,List.mem_cons,List.not_mem_nil,or_false]at hc<;>rcases hc with rfl | rfl<;>decide⟩
theorem YA.drop{l:List RowE}(h:YA l)(k:Nat):YA (l.drop k):=⟨by rw[List.length_drop];have:=h.1;omega,fun x hx=>h.2 x (List.mem_of_mem_drop hx)⟩
theorem cq_two(H:Heap):Jr prog (.fn (.func 14) [] []) [] H (Zh twoF):=fun m=>Zu func14 rfl rfl rfl (Xn H m) ⟨rfl,rfl,rfl⟩
theorem cq_plain(H:Heap):Jr prog (.fn (.func 17) [] []) [] H (.sl 2 (Z5.map Zf)):=fun m=>Zu func17 rfl rfl rfl (UG H m) ⟨rfl,rfl,rfl⟩
theorem ret_start(q:QryE)(hq:q.fine){r:List UInt8×Bool×Int}(hr:Zv q=r){H:Heap}{n:Nat}(hG:GOK 1 1 H n):Ret prog 24 [Ze q] H n (.tup [bys r.1,.bool r.2.1,.int .i64 r.2.2]) H n:=by
 have:=Uz hq hG (QL.ro q H);unfold Yt at this;rw[hr]at this;exact this
theorem NE70.eqs{P Q:Prop}(g:Imp P Q:=by(try simp only[go_sem,seval,hszq,hagq,hmoq,hszp,hagp,hmop,b1,b2,g1,g2,g3,s2,s3,s4,u2,u3,u4,hn0,pgAV,Zf,bys,qg,qb,qd]);exact Imp.rf):Imp P Q:=g
theorem NE70.sd{P:Prop}(g:P:=by first | ((repeat' apply And.intro)<;>first | (intro d hd;cases hd;exact cq_two _) | (intro d hd;cases hd;exact cq_plain _) | (intro g;trivial) | (intro g;rfl)) | exact⟨1,rfl,rfl⟩ | fail):P:=g
set_option maxRecDepth 100000 in
set_option maxHeartbeats 3200000 in
open NE70 NZ in
theorem M7(H:Heap)(n:Nat)(hG:GOK 1 1 H n):Ret prog 31 [] H n (.bool true) H n:=by
 have hszq:∀q,(Ze q).sz=10:=ZT;have hagq:∀q,(Ze q).isAgg=true:=fun _=>rfl;have hmoq:∀q,(Ze q).memOK=true:=fun _=>rfl;have hszp:∀p,(pgAV p).sz=3:=fun _=>rfl;have hagp:∀p,(pgAV p).isAgg=true:=fun _=>rfl;have hmop:∀p,(pgAV p).memOK=true:=fun _=>rfl;have hg1:=hG.gek;have hg2:=hG.get;obtain⟨s1,s2,s3,s4,s5,s6⟩:=st1;obtain⟨u1,u2,u3,u4⟩:=st3;have hn0:nth (pg0.rows.map Zf) 0=Zf (pg0.rows.getD 0 default):=Zr Zf _ 0 om;have b1:=hG;have b2:=hG;have g1:(n=n+1)=False:=osi;have g2:(n=n+2)=False:=osi;have g3:=hG;refine Ret.fin ?_;refine fw func31 ntmps31 results31 ?_;refine rg zs [] ?_;refine rg zs [1] ?_;refine QA n (els':=[Ze q0]) (Rm _ _ _) ⟨Wk.agg ⟨Wk.nilsl 1,Wk.nilsl 1,Wk.nilsl 1,Wk.nilsl 1,.refl _,.refl _,.refl _,.refl _,.refl _,Wk.nilsl 1,trivial⟩,trivial⟩ ?_;refine awp_seq_j (fun T' H' n'=>∃kp:Nat,T'=tl [(1,.loc n 0 0 0 []),(2,.loc kp 0 0 0 []),(3,.int .i64 0)]∧H' n=some (.arr 0 10 [Ze q0])∧H' kp=some (.arr 0 3 [pgAV pg0])∧n<kp∧kp<n'∧∀k,k<n→H' k=H k) ?_ ?_
 ·refine awp_tree1 rfl zs [1,2,3] 10 [.c,.q,.c,.q,.w [1],.q,.w [],.m,.q,.q,.w [],.w [9],.q] [0,1,2,3,4,5,6,7,8,9] [11,12] (.w [0,1,2,3,5,8,9]) [(4,.w [0,1,2,3]),(6,.w [0,1,2,3,5])] [0,1,2,3,4,5,6,7,8,9,0,10,11] odc (by kernel_rfl) (fun _ _ _ _ _ h=>h) fun K V=> ?_;refine nz ?_;refine cq func14 (fun _ n=>(Xn _ _)) ?_;refine cq func17 (fun _ n=>(UG _ _)) ?_;refine And.intro ?_ ?_
  ·refine nz ?_;refine Zw (args':=[Zh twoF,Ze q0,.int .i64 9,.iface 52 (.loc _ 0 0 0 [])]) func18 rfl rfl rfl ((Vg twoF odc q0 q0_fine 9 Z5 0 Q3 _ ?_ ?_)) ?_ ?_
   ·exact hG.on (fun k hk=>oh) om
   ·refine ohx ?_;rfl
   rotate_left
   ·exact kb4
   intro rr H1 n1 hc;obtain⟨hn1,hlo1,hr⟩:=hc;rw[s1,show(runE twoF q0 9 (some (Z5,0))).1=pg0 from rfl]at hr;cases hr;have g3:(n=n1)=False:=oz;have b2:H1 n=some (.arr 0 10 [Ze q0]):=(hlo1 _ om om).trans oh;have b1:H1 (n+1)=some (.arr 0 3 [.agg [.nilsl,.nilsl,.bool false]]):=(hlo1 _ om om).trans oh;exact kak
  refine nz ?_;refine And.intro ?_ ?_
  ·refine nz ?_;refine Zw (args':=[Zh twoF,Ze q0,.int .i64 9,.iface 52 (.loc _ 0 0 0 [])]) func18 rfl rfl rfl ((Vg twoF odc q0 q0_fine 9 Z5 0 Q3 _ ?_ ?_)) ?_ ?_
   ·exact hG.on (fun k hk=>oh) om
   ·refine ohx ?_;rfl
   rotate_left
   ·exact kb4
   intro rr H1 n1 hc;obtain⟨hn1,hlo1,hr⟩:=hc;rw[s1,show(runE twoF q0 9 (some (Z5,0))).1=pg0 from rfl]at hr;cases hr;have g3:(n=n1)=False:=oz;have b2:H1 n=some (.arr 0 10 [Ze q0]):=(hlo1 _ om om).trans oh;have b1:H1 (n+2)=some (.arr 0 3 [.agg [.nilsl,.nilsl,.bool false]]):=(hlo1 _ om om).trans oh;exact kak
  refine nz ?_;refine Zw (args':=[Zh twoF,Ze q0,.int .i64 9,.iface 52 (.loc _ 0 0 0 [])]) func18 rfl rfl rfl ((Vg twoF odc q0 q0_fine 9 Z5 0 Q3 _ ?_ ?_)) ?_ ?_
  ·exact hG.on (fun k hk=>oh) om
  ·refine ohx ?_;rfl
  rotate_left
  ·exact kb4
  intro rr H1 n1 hc;obtain⟨hn1,hlo1,hr⟩:=hc;rw[s1,show(runE twoF q0 9 (some (Z5,0))).1=pg0 from rfl]at hr;cases hr;have g3:(n=n1)=False:=oz;have b2:H1 n=some (.arr 0 10 [Ze q0]):=(hlo1 _ om om).trans oh;exact kak
 rintro T9 H1 n1 ⟨kp,rfl,b2,b1,hkp,hkn,hlow1⟩;refine Za fun K1 hK1=> ?_;refine rc zs [1,2,45] func20 ((Wj _ _ _)) ?_;refine Zb ?_ ?_<;>intro hb
 ·exact absurd hb (by simp[s5])
 refine kay ?_;refine rg zs [1,2] ?_;refine rk zs [1,2,4,5,6] fun K V=> ?_;refine ck func24 ((ret_start q1 q1_fine st2 (hG.on (fun k hk=>ohx (hlow1 k hk)) om))) ?_;refine kas ?_;refine Za fun K2 hK2=> ?_;refine Zg zs [1,2,67] fun K V=> ?_;refine kaY ?_
 repeat refine peel ?_
 refine Zu func20 rfl rfl rfl ((Wj _ _ _)) ?_;refine kaY ?_
 repeat (first | (refine And.intro ?_ ?_;· first | exact⟨rfl,fun x hx=>by simp only[List.mem_cons,List.not_mem_nil,or_false]at hx;rcases hx with rfl | rfl | rfl<;>exact⟨rfl,rfl⟩⟩) | refine peel ?_)
 refine YM func26 rfl rfl rfl (fun _=>(Qx [114,50,0] [114,50,0] _ _)) ?_;refine kaY ?_;refine kad ?_;refine Zb ?_ ?_<;>intro hb
 ·exact kaJ
 refine kaQ ?_;refine ZG (fun H' n'=>H' n=some (.arr 0 10 [Ze q1])∧H' kp=some (.arr 0 3 [pgAV pg0])∧(∀k,k<n→H' k=H k)∧n'=n1) ⟨ohr,ohx b1,fun k hk=>ohx (hlow1 k hk),rfl⟩ fun H2 n2 ⟨b2,b1,hlow2,hn2⟩=> ?_;subst hn2;have f9:(n=n2)=False:=oz;have hpl:Z5.length=3:=rfl;have hS2:=YA.drop Q3 2;refine Y0 rfl zs [2,3] [.c,.q,.c,.q,.q,.w [1],.q,.w [],.m,.q,.q,.w [10],.q] [0,1,2,3,4,5,6,7,8,9,10,11,12] [0,1,2,3,4,5,6,7,8,9,10,11,12] (by kernel_rfl) (fun _ _ _ _ _ h=>h) fun K V=> ?_;refine kao ?_
 repeat refine peel ?_
 refine ZQ func14 rfl rfl rfl (fun _ n=>(Xn _ _)) ?_;refine kao ?_
 repeat refine peel ?_
 refine ZQ func17 rfl rfl rfl (fun _ n=>(UG _ _)) ?_;refine kao ?_
 repeat (first | (refine And.intro ?_ ?_;· first | exact⟨1,rfl,rfl⟩) | refine peel ?_)
 refine cK func18 ((Vg (H:=H2.put n2 (some (srcN (Z5.drop 2) 0))) (n:=n2+1) twoF odc q1 q1_fine 99 (Z5.drop 2) 0 hS2 n2 (hG.on (fun k hk=>ohx (hlow2 k hk)) om) oh)) ?_ ?_
 ·exact kb4
 intro rr H3 n3 hc;obtain⟨hn3,hlo3,hr⟩:=hc;rw[u1,show(runE twoF q1 99 (some (Z5.drop 2,0))).1=pg1 from rfl]at hr;cases hr;have b1:H3 kp=some (.arr 0 3 [pgAV pg0]):=(hlo3 _ om om).trans (ohx b1);have hlow3:∀k,k<n→H3 k=H k:=fun k hk=>(hlo3 k om om).trans (ohx (hlow2 k hk));refine kao ?_;refine kad ?_;refine rc zs [0] func20 ((Wj _ _ _)) ?_;refine ar ?_;refine⟨_,rfl,fun k hk=>ohx (hlow3 k hk),Frz.eq osi trivial⟩
theorem NE80.eqs{P Q:Prop}(g:Imp P Q:=by(try simp only[go_sem,seval,hszs,hags,hmos,hszq,hagq,hmoq,hszp,hagp,hmop,f1,f2,f3,f4,f5,qg,qb,qd]);exact Imp.rf):Imp P Q:=g
theorem NE90.eqs{P Q:Prop}(g:Imp P Q:=by(try simp only[go_sem,seval,hszs,hags,hmos,hszq,hagq,hmoq,hszp,hagp,hmop,f1,f2,f3,b1,b2,b3,m1,m2,g1,g2,e1,Zx,qg,qb,qd]);exact Imp.rf):Imp P Q:=g
open Go.ChangeShapes Go.WideShapes Go.ChangeAt Go.RowKit
section
variable {H:Type}{enc:TypeId×Value→H}{W:World}
end
theorem P8{H:Type}(d:DataW H):1≤Rows.uptoBulk d:=by
 cases d with
 | lit l=>exact Ve.lit l
 | nil=>exact Ve.nil
 | _=>simp[Rows.uptoBulk]
section
variable {H:Type}{enc:TypeId×Value→H}{W:World}
set_option maxRecDepth 100000 in
theorem argRowsB{v : Value}{d : DataW H}{ps : List MemPlace}(hv : Value.okWide prog W .any 0 26 v)(h : DataW.Trod enc prog W 0 (fun _ => true) true 26 v d ps)(hb : Rows.uptoBulk d ≤ 1048576):
   ∃l:List RowE,Rel (c0 W) (.sl 2 (l.map Zf)) false [v]∧YA l∧l.length+1≤Rows.uptoBulk d:=by
 obtain⟨a,m,h1,h2,h3⟩:=LK rRows h;obtain⟨l,rfl,h4,h5⟩:=Kw (f:=Zf) (q:=rowQ) (fun a m h=>sRow_av2 h) h1;obtain⟨aa,len,cap,rfl⟩:=okWide_slice underlying26 hv;refine⟨l,rel_flat h2 (fun h=>by simp[AV.isAgg]at h) (fun _=>rfl),⟨om,fun x hx=> ?_⟩,om⟩;obtain⟨q1,q2,q3⟩:=rowQ_spec (r:=x) (m:=1048576) (by have:=h5 x hx;omega);exact⟨om,om,fun c hc=>by have:=q3 c hc;omega⟩
end
theorem sQry_four{a:AV}{m:Nat}(h:SQry a m):4≤m:=by
 obtain⟨xs,rfl,hx,rfl⟩:=h;obtain⟨x0,xs,rfl,h0,hx⟩:=ZE hx;obtain⟨x1,xs,rfl,h1,hx⟩:=ZE hx;obtain⟨x2,xs,rfl,h2,hx⟩:=ZE hx;obtain⟨x3,xs,rfl,h3,hx⟩:=ZE hx;obtain⟨x4,xs,rfl,⟨_,_,_,h4⟩,hx⟩:=ZE hx;obtain⟨x5,xs,rfl,⟨_,_,_,h5⟩,hx⟩:=ZE hx;obtain⟨x6,xs,rfl,⟨_,_,_,h6⟩,hx⟩:=ZE hx;simp only[List.map_cons,List.sum_cons];omega
theorem qry_four{H:Type}{enc:TypeId×Value→H}{W:World}{v:Value}{d:DataW H}{ps:List MemPlace}(h:DataW.Trod enc prog W 0 (fun _=>true) true 25 v d ps):4≤Rows.uptoBulk d:=by
 obtain⟨a,m,h1,h2,h3⟩:=LK rQry h;have:=sQry_four h1;omega
end Go.Proofs.YtkmkbndcekklmaaGreatDoor
namespace Go.Sx
open Go
def AppOM(ver off len s by':Nat)(kk:Nat)(H:Heap)(n:Nat)(C:Prop)(eo:Option Nat)(ys:List AV)(k:AV→Heap→Nat→Prop):Option AObj→Prop
 | some (.arr ver' esz els) => (ver = ver' ∧ off = 0 ∧ len ≤ els.length ∧ esz = s ∧ C ∧ (eo = none ∨ eo = some s) ∧ 0 < ys.length ∧ (len + ys.length) * by' ≤ 140737488355328 ∧ len + ys.length ≤ 4611686018427387904) ∧
     k (.osl kk ver 0 (len+ys.length)) (H.put kk (some (.arr ver esz (els.take len++ys++els.drop (len+ys.length))))) n∧k (.osl n 0 0 (len+ys.length)) (H.put n (some (.arr 0 esz (els.take len++ys)))) (n+1)
 | _=>False
def Rj(H:Heap)(n:Nat)(k:AV→Heap→Nat→Prop):AV→Option (Nat×Nat)→Option (Prop×Option Nat×List AV)→Prop
 | .nilsl,some (s,by'),some (C,eo,ys)=>(C∧(eo=none∨eo=some s)∧ys.length*by'≤140737488355328∧ys.length≤4611686018427387904)∧k (.osl n 0 0 ys.length) (H.put n (some (.arr 0 s ys))) (n+1)
 | .osl kk ver off len,some (s,by'),some (C,eo,ys)=>AppOM ver off len s by' kk H n C eo ys k (H kk)
 | _,_,_=>False
theorem ot_appM{P : Program}{H : Heap}{n : Nat}{dst : Option Tmp}{t : TypeId}{x y : Operand}{ty : TypeId}{pos : String}{after : Array Edge}{guard : Option (Nat × Bool)}{ε : Operand → AV}{k : AV → Heap → Nat → Prop}
   (h:Rj H n k (ε x) (tEl P t) (slcO H (ε y))):OpT P ⟨dst,.call ⟨.builtin .append,#[x,y],#[t,t]⟩,ty,pos,after,guard⟩ ε H n (fun res H' n'=>match res with | .val r=>k r H' n' | .pan _=>False):=
 OpT.of_run fun c w ρv hs hr=>by
   have hx:=hr x (by simp[Op.operands,Call.operands]);have hy:=hr y (by simp[Op.operands,Call.operands]);have hexec:∀v w',(Builtin.append_ #[t,t] ty #[ρv x,ρv y]).run P w= .ok v w'→(execOp ρv ⟨dst,.call ⟨.builtin .append,#[x,y],#[t,t]⟩,ty,pos,after,guard⟩).run P w= .ok (.value v) w':=fun v w' hh=>by
     simp[execOp,resolve,invoke,builtin,hh]
   generalize ε x=xa at h hx;cases ht:tEl P t with
   | none=>rw[ht]at h;cases xa<;>simp[Rj]at h
   | some sb=>
   obtain⟨s,by'⟩:=sb;cases hsl:slcO H (ε y)with
   | none=>rw[hsl,ht]at h;cases xa<;>simp[Rj]at h
   | some q=>
   obtain⟨Cy,eo,ys⟩:=q;rw[hsl,ht]at h;obtain⟨e,i,z,hu,hi,hz,hzs,hpos,hsz,hby⟩:=UO ht;have hyzG:∀(c2:eo=none∨eo=some s) (hzz:∀x∈ys,∀e,eo=some e→x.sz=e),∀u∈ys,u.sz=s:=fun c2 hzz u hu=>by
     rcases c2 with c2 | c2
     ·subst c2;unfold slcO at hsl;split at hsl
      ·simp at hsl;rw[hsl.2]at hu;simp at hu
      ·simp at hsl
      ·unfold slcO.slcA at hsl;split at hsl<;>simp at hsl
      ·simp at hsl
     ·exact hzz u hu s c2
   cases xa<;>simp only[Rj]at h
   ·
     obtain⟨⟨c1,c2,c3,c4⟩,V⟩:=h;obtain⟨a,cap,ds,ev,hrf,hzz,hcase⟩:=JA hs hy hsl c1;simp only[Rel,List.cons.injEq,and_true]at hx;have hyz:=hyzG c2 hzz;have hdl:ds.length=ys.length*i.size:=by rw[(RelF.len _ _ hrf).1,Rp hyz,hsz]
     by_cases h0:ys=[]
     ·subst h0;refine⟨_,.slice none 0 0,_,_,_,w,.inl (hexec _ _ ?_),RN hs s,?_,V⟩
      ·rw[hx,ev];exact X0 hu hi none a 0 0 cap (Nat.le_refl _)
      ·simp only[Rel];exact⟨.nil,Rn,osi⟩
     ·obtain⟨ad,rfl,hcells⟩:=hcase.resolve_left (fun h=>h0 h.2);have hlen:0<ys.length:=List.length_pos_iff.2 h0;have hrun:=run_append_nil (P:=P) w t ty e i z hu hi hz ad ys.length cap ds hdl hcells hlen om (by rw[hby];omega);have hgc:=grownCap_ge w ys.length 0 e
      have hst:=Ry (RB hs) (ds.toArray++Builtin.zeroCells z.cells (grownCap w ys.length 0 e-ys.length)) e (grownCap w ys.length 0 e) s ys ds hyz hgc
        (by simp only[Array.size_append,List.size_toArray,size_zeroCells,hzs,hdl,hsz];rw[←Nat.add_mul];congr 1;omega) hrf (At.zero.2 ⟨_,by simp;rfl⟩)
      refine⟨_,_,_,_,_,_,.inl (hexec _ _ (by rw[hx,ev];exact hrun)),(Step.drew hs).trans hst,?_,V⟩;simp only[Rel];exact⟨_,Rn,grownCap w ys.length 0 e,0,hgc,osi,.inr osi,rfl⟩
   ·
     rename_i kk ver off len;unfold AppOM at h;split at h
     ·rename_i ver' esz els hk;obtain⟨⟨d1,d2,d3,d4,c1,c2,c0,c3,c4⟩,hK1,hK2⟩:=h;subst d1;subst d2;subst d4;obtain⟨a,cap,ds,ev,hrf,hzz,hcase⟩:=JA hs hy hsl c1;have hyz:=hyzG c2 hzz;have hdl:ds.length=ys.length*i.size:=by rw[(RelF.len _ _ hrf).1,Rp hyz,hsz]
      simp only[Rel,List.cons.injEq,and_true]at hx;obtain⟨l,hl,hm⟩:=hx;have ho:=hs.own kk _ hk;simp only[ZR]at ho;obtain⟨l',hl',hm'⟩:=ho;rw[hl]at hl';cases hl';have hys0:ys≠[]:=fun h=>by rw[h]at c0;simp at c0
      obtain⟨ad,rfl,hcells⟩:=hcase.resolve_left (fun h=>hys0 h.2);cases l with
      | nil=>
        obtain⟨_,h2,evx⟩:=hm;simp only at hm';subst hm';subst h2;have hrun:=run_append_nil (P:=P) w t ty e i z hu hi hz ad ys.length cap ds hdl hcells c0 (by simp at c4;omega) (by rw[hby];simp at c3;omega);have hgc:=grownCap_ge w ys.length 0 e
        have hst:=Ry (RB hs) (ds.toArray++Builtin.zeroCells z.cells (grownCap w ys.length 0 e-ys.length)) e (grownCap w ys.length 0 e) esz (([]:List AV)++ys) ds (by simpa using hyz) (by simpa using hgc)
          (by simp only[Array.size_append,List.size_toArray,size_zeroCells,hzs,hdl,hsz];rw[←Nat.add_mul];congr 1;omega) (by simpa using hrf) (At.zero.2 ⟨_,by simp;rfl⟩)
        refine⟨_,_,_,_,_,_,.inl (hexec _ _ (by rw[evx,ev];exact hrun)),(Step.drew hs).trans hst,?_,hK2⟩;simp only[Rel];exact⟨_,Rn,grownCap w ys.length 0 e,0,by simpa using hgc,osi,.inr osi,osi⟩
      | blk b cp e'=>
        obtain⟨cp',o',h1,h2,h3,evx⟩:=hm;obtain⟨he,hze,hcl,arr,tyb,olds,hb,hasz,hrfe,ha⟩:=hm';subst he;obtain⟨E1,E2,rfl,hE1⟩:∃E1 E2,els=E1++E2∧E1.length=len:=⟨els.take len,els.drop len,(List.take_append_drop _ _).symm,by rw[qk];omega⟩;subst hE1;obtain⟨o1,o2,rfl,hr1,hr2⟩:=RelF.append.1 hrfe;have hz1:∀u∈E1,u.sz=e':=fun u hu=>hze u (by simp[hu]);have hz2:∀u∈E2,u.sz=e':=fun u hu=>hze u (by simp[hu]);have hol1:o1.length=E1.length*i.size:=by rw[(RelF.len _ _ hr1).1,Rp hz1,hsz]
        obtain⟨post,hp⟩:=At.zero.1 ha;have holds:∀j v,o1[j]? =some v→w.cell? ((⟨b,0,none⟩:Addr).add j)=some v:=fun j v hj=>by
          rw[Addr.add_plain,Nat.zero_add];simp only[World.cell?,hb];have hj2:(o1++o2)[j]? =some v:=by rw[List.getElem?_append_left (List.getElem?_eq_some_iff.1 hj).1];exact hj
          have:=ha j v hj2;simpa using this
        have ht1:(E1++E2).take E1.length=E1:=List.take_left;have ht2:(E1++E2).drop (E1.length+ys.length)=E2.drop ys.length:=by rw[←List.drop_drop,List.drop_left]
        rw[ht1,ht2]at hK1;rw[ht1]at hK2;have hbo:Zm c kk (.arr ver e' (E1++E2))=some b:=by simp[Zm,AObj.ver,hl]
        by_cases hroom:E1.length+ys.length≤cp'
        ·
          have eo':o'=0:=by rcases h3 with h3 | h3<;>omega
          subst eo';have hone:=(RelF.len _ _ hrf).2;have hcp:cp'=cp:=om;have hfit:E1.length*i.size+ds.length≤arr.size:=by
            rw[hdl,hasz,←Nat.add_mul,←hsz];exact Nat.mul_le_mul_right _ om
          have hrun:=run_append_room' (P:=P) (ty:=ty) (c:=cap) hu hi hb hdl hcells hone hroom hfit;have htake:arr.toList.take (E1.length*i.size)=o1:=by rw[hp,←hol1,qf,List.take_left]
          rw[htake]at hrun;have hwb:∀b' cs,b'≠b→(w.setRow b cs).heap[b']? =w.heap[b']? :=fun b' cs hb'=>setRow_other w b b' _ hb';obtain⟨p1,p2,hp12,hq1,hq2⟩:=RelF.append.1 (show RelF c (E2.take ys.length++E2.drop ys.length) o2 by rw[List.take_append_drop];exact hr2);have hdrop:∃rest,arr.toList.drop (E1.length*i.size+ds.length)=p2++rest:=by
            rw[hp,qf,←List.drop_drop,←hol1,List.drop_left,hdl];by_cases hm:ys.length≤E2.length
            ·have hpl:p1.length=ys.length*i.size:=by rw[(RelF.len _ _ hq1).1,Rp (fun u hu=>hz2 u (List.mem_of_mem_take hu)),hsz,qk,Nat.min_eq_left hm]
             refine⟨post,?_⟩;rw[hp12,qf,←hpl,List.drop_left]
            ·have : p2 = [] := by
               have:=(RelF.len _ _ hq2).1;rw[List.drop_eq_nil_of_le om]at this;exact List.eq_nil_of_length_eq_zero (by simpa [AV.szs]using this)
             exact⟨_,by rw[this];rfl⟩
          obtain⟨rest,hrest⟩:=hdrop
          have hst:=Step.write (w':=w.setRow b (o1++ds++List.drop (E1.length*i.size+ds.length) arr.toList).toArray) hs kk (.arr ver e' (E1++E2)) (.arr ver e' (E1++ys++E2.drop ys.length)) hk rfl ⟨rfl,rfl,rfl,by simp[World.setRow],fun b' _ hS=>hwb b' _ fun e=>hS ⟨kk,_,hk,by rw[e];exact hbo⟩⟩
            (fun k'' o'' b' hne hk' hb'=>hwb b' _ fun e=>hne (hs.inj k'' kk o'' _ b hk' hk (by rw[←e];exact hb') hbo))
            (fun b' a' hb'=>hwb b' _ fun e=>by have:=hs.sep kk _ b hk hbo;rw[←e,hb']at this;simp at this) (by
              simp only[ZR];refine⟨_,hl,rfl,?_,?_,_,tyb,o1++ds++p2,setRow_heap w b arr _ tyb _ hb,?_,RelF.append.2 ⟨_,_,rfl,RelF.append.2 ⟨_,_,rfl,hr1,hrf⟩,hq2⟩,At.zero.2 ⟨rest,by rw[hrest];simp⟩⟩
              ·intro u hu;rcases List.mem_append.1 hu with hu | hu
               ·rcases List.mem_append.1 hu with hu | hu
                ·exact hz1 u hu
                ·exact hyz u hu
               ·exact hz2 u (List.mem_of_mem_drop hu)
              ·rw[qe]at hcl;simp only[qe,List.length_drop];omega
              ·rw[←hasz];simp only[List.size_toArray,qe,List.length_drop,hol1,Array.length_toList];omega)
          refine⟨_,_,_,_,_,_,.inl (hexec _ _ (by rw[evx,ev];exact hrun)),hst,?_,hK1⟩;simp only[Rel];exact⟨_,hl,cp',0,hroom,by simpa using h2,.inr osi,rfl⟩
        ·
          have helems:∀u∈E1++ys,u.sz=e':=fun u hu=>by
            rcases List.mem_append.1 hu with h | h
            ·exact hz1 u h
            ·exact hyz u h
          have hrunG:∀bb:Addr,(∀j v,o1[j]? =some v→w.cell? (bb.add j)=some v)→(Builtin.append_ #[t,t] ty #[.slice (some bb) E1.length cp',.slice (some ad) ys.length cap]).run P w=_:=fun bb hbb=>
            run_append_grow (P:=P) w t ty e i z hu hi hz bb E1.length cp' o1 hol1 hbb ad ys.length cap ds hdl hcells om om (growslice_fits om (by rw[hby];exact c3))
          have hgc:=grownCap_ge w (E1.length+ys.length) cp' e
          have hst:=Ry (RB hs) (o1.toArray++ds.toArray++Builtin.zeroCells z.cells (grownCap w (E1.length+ys.length) cp' e-(E1.length+ys.length))) e (grownCap w (E1.length+ys.length) cp' e) e' (E1++ys) (o1++ds)
            helems (by rw[qe];exact hgc) (by simp only[Array.size_append,List.size_toArray,size_zeroCells,hzs,hol1,hdl,hsz];rw[←Nat.add_mul,←Nat.add_mul];congr 1;omega) (RelF.append.2 ⟨_,_,rfl,hr1,hrf⟩) (At.zero.2 ⟨_,by simp;rfl⟩)
          have hbb:∀j v,o1[j]? =some v→w.cell? ((⟨b,o',none⟩:Addr).add j)=some v:=by
            rcases h3 with h3 | h3
            ·have:E1.length=0:=om;have:o1=[]:=List.eq_nil_of_length_eq_zero (by rw[hol1,this];simp);subst this;intro j v hj;simp at hj
            ·rw[h3,Nat.zero_mul];exact holds
          refine⟨_,_,_,_,_,_,.inl (hexec _ _ (by rw[evx,ev];exact hrunG _ hbb)),(Step.drew hs).trans hst,?_,hK2⟩;simp only[Rel];exact⟨_,Rn,grownCap w (E1.length+ys.length) cp' e,0,hgc,osi,.inr osi,rfl⟩
     ·exact h.elim
   all_goals exact h.elim
theorem QB{P : Program}{N id : Nat}{l : List Oper}{T : Nat → AV}{H : Heap}{n : Nat}{Q : QK}(z : TypeId → AV)(live : List Nat)(i : Nat){dst : Option Tmp}{t : TypeId}{xo yo : Operand}{ty : TypeId}{pos : String}{after : Array Edge}
   (ho:l=l.take i++⟨dst,.call ⟨.builtin .append,#[xo,yo],#[t,t]⟩,ty,pos,after,none⟩::l.drop (i+1)) (hd:dOK N dst)
   (h:∀K:KT,(∀T H n,Q .normal T H n→K T H n)→
     erun P z N l.toArray (l.take i) T H n (ZK (fun T1 H1 n1=>Rj H1 n1 (fun r H2 n2=>erun P z N l.toArray (l.drop (i+1)) (tput T1 dst r) H2 n2 (ZK (fun T' H' n'=>K (tsel live T') H' n') Q)) (evO T1 xo) (tEl P t) (slcO H1 (evO T1 yo))) Q)):
   awp P N (.region id l.toArray false) T H n Q:=by
 have key:lrun P N l.toArray l T H n (ZK (fun T' H' n'=>Q .normal (tsel live T') H' n') Q):=by
   have h1:=h (fun T H n=>Q .normal T H n) (fun _ _ _ h=>h);have:lrun P N l.toArray (l.take i++⟨dst,.call ⟨.builtin .append,#[xo,yo],#[t,t]⟩,ty,pos,after,none⟩::l.drop (i+1)) T H n (ZK (fun T' H' n'=>Q .normal (tsel live T') H' n') Q):=by
     refine Yx ?_ ?_ _ _ _ _ h1
     ·intro T1 H1 n1 hA c w a hs hr hN ds hdf;have hA:=hA;simp only[ZK]at hA
      exact YB (o:=⟨dst,.call ⟨.builtin .append,#[xo,yo],#[t,t]⟩,ty,pos,after,none⟩) (kp:=fun _ _ _=>False) hd ((ot_appM (ε:=evO T1) hA).mono fun r H n hk=>by cases r<;>exact hk) hs hr hN hdf (YT rfl) (fun x _=>Wy hr x) (fun x=>x) (fun _ _ _ h=>h)
        (fun r H' n' hk=>Z9 _ _ _ _ hk) (fun _ _ _ h=>h.elim)
     ·intro p T H n h;exact h
   rw[←ho]at this;exact this
 have hr:awp P N (.region id l.toArray false) T H n (ZK (fun T' H' n'=>Q .normal (tsel live T') H' n') Q):=fun c w a hs hr hN ds hd=>wp_region_list (by simpa using key c w a hs hr hN ds hd);exact Uu live hr
theorem AppDM_nil(H:Heap)(n:Nat)(k:AV→Heap→Nat→Prop)(s by':Nat)(C:Prop)(eo:Option Nat)(ys:List AV):Rj H n k .nilsl (some (s,by')) (some (C,eo,ys))=((C∧(eo=none∨eo=some s)∧ys.length*by'≤140737488355328∧ys.length≤4611686018427387904)∧k (.osl n 0 0 ys.length) (H.put n (some (.arr 0 s ys))) (n+1)):=rfl
theorem AppDM_osl(H:Heap)(n:Nat)(k:AV→Heap→Nat→Prop)(kk ver off len s by':Nat)(C:Prop)(eo:Option Nat)(ys:List AV):Rj H n k (.osl kk ver off len) (some (s,by')) (some (C,eo,ys))=AppOM ver off len s by' kk H n C eo ys k (H kk):=rfl
def AppKM(k:AV→Heap→Nat→Prop)(H:Heap)(n kk ver esz len:Nat)(els ys:List AV):Prop:=
 k (.osl kk ver 0 (len+ys.length)) (H.put kk (some (.arr ver esz (els.take len++ys++els.drop (len+ys.length))))) n∧k (.osl n 0 0 (len+ys.length)) (H.put n (some (.arr 0 esz (els.take len++ys)))) (n+1)
theorem AppOM_some(ver off len s by' kk:Nat)(H:Heap)(n:Nat)(C:Prop)(eo:Option Nat)(ys:List AV)(k:AV→Heap→Nat→Prop)(ver' esz:Nat)(els:List AV):AppOM ver off len s by' kk H n C eo ys k (some (.arr ver' esz els))=((ver=ver'∧off=0∧len≤els.length∧esz=s∧C∧(eo=none∨eo=some s)∧0<ys.length∧(len+ys.length)*by'≤140737488355328∧len+ys.length≤4611686018427387904)∧
 AppKM k H n kk ver esz len els ys):=rfl
theorem AppKM.all{k : AV → Heap → Nat → Prop}{H : Heap}{n kk ver esz len : Nat}{els ys : List AV}(hkk : kk < n)
   (h:∀gk gv H2 n2,n≤n2→gk<n2→(gk=kk∨n≤gk)→(∃rest,H2 gk=some (.arr gv esz (els.take len++ys++rest)))→(H2 kk=some (.arr ver esz els)∨H2 kk=some (.arr ver esz (els.take len++ys++els.drop (len+ys.length))))→(∀j,j<n→j≠kk→H2 j=H j)→k (.osl gk gv 0 (len+ys.length)) H2 n2)
   (hH:H kk=some (.arr ver esz els)):AppKM k H n kk ver esz len els ys:=by
 refine⟨h _ _ _ _ (Nat.le_refl _) hkk (.inl rfl) ⟨_,Rm _ _ _⟩ (.inr (Rm _ _ _)) (fun j _ hj=>Rk _ _ hj),h _ _ _ _ om om (.inr (Nat.le_refl _)) ⟨[],by rw[Rm,List.append_nil]⟩ (.inl ?_) (fun j hn hj=>Rk _ _ om)⟩;rw[Rk _ _ om];exact hH
attribute [go_sem] AppDM_nil AppDM_osl AppOM_some
mutual
inductive NilA(nw:List Nat):AV→AV→Prop
 | rf {a:AV}:NilA nw a a
 | nl {k:Nat}:k∈nw→NilA nw .nilsl (.osl k 0 0 0)
 | agg {l m:List AV}:NilL nw l m→NilA nw (.agg l) (.agg m)
 | tup {l m:List AV}:NilL nw l m→NilA nw (.tup l) (.tup m)
inductive NilL(nw:List Nat):List AV→List AV→Prop
 | nil:NilL nw [] []
 | cons {a b:AV} {l m:List AV}:NilA nw a b→NilL nw l m→NilL nw (a::l) (b::m)
end
mutual
theorem NilA.wide{nw nw':List Nat}(h:∀k∈nw,k∈nw'):∀{a b:AV},NilA nw a b→NilA nw' a b
 | _,_,.rf=> .rf
 | _,_,.nl hk=> .nl (h _ hk)
 | _,_,.agg hl=> .agg (hl.wide h)
 | _,_,.tup hl=> .tup (hl.wide h)
theorem NilL.wide{nw nw':List Nat}(h:∀k∈nw,k∈nw'):∀{a b:List AV},NilL nw a b→NilL nw' a b
 | _,_,.nil=> .nil
 | _,_,.cons h1 h2=> .cons (h1.wide h) (h2.wide h)
end
theorem NilL.len{nw:List Nat}:∀{a b:List AV},NilL nw a b→a.length=b.length
 | _,_,.nil=>rfl
 | _,_,.cons _ h=>by simp[h.len]
mutual
theorem NilA.sz{nw:List Nat}:∀{a b:AV},NilA nw a b→a.sz=b.sz
 | _,_,.rf=>rfl
 | _,_,.nl _=>rfl
 | _,_,.agg h=>by simp only[AV.sz];exact h.szs
 | _,_,.tup _=>rfl
theorem NilL.szs{nw:List Nat}:∀{a b:List AV},NilL nw a b→AV.szs a=AV.szs b
 | _,_,.nil=>rfl
 | _,_,.cons h1 h2=>by simp only[AV.szs];rw[h1.sz,h2.szs]
end
theorem NilL.szAll{nw:List Nat}{e:Nat}:∀{a b:List AV},NilL nw a b→(∀x∈a,x.sz=e)→∀x∈b,x.sz=e
 | _,_,.nil,_,x,hx=>by simp at hx
 | _,_,.cons h1 h2,h,x,hx=>by
   rcases List.mem_cons.1 hx with rfl | hx
   ·rw[←h1.sz];exact h _ osi
   ·exact h2.szAll (fun y hy=>h y (by simp[hy])) x hx
def NwOK(c:Ctx)(nw:List Nat):Prop:=∀k∈nw,c.ρ k 0=some .nil
mutual
theorem NilA.rel{c:Ctx}{nw:List Nat}(hn:NwOK c nw):∀{a b:AV},NilA nw a b→∀{m:Bool} {cs:List Value},Rel c a m cs→Rel c b m cs
 | _,_,.rf,_,_,h=>h
 | _,_,.nl hk,m,cs,h=>by simp only[Rel]at h ⊢;exact⟨.nil,hn _ hk,osi,osi,h⟩
 | _,_,.agg hl,true,cs,h=>by simp only[Rel]at h ⊢;exact hl.relF hn h
 | _,_,.agg hl,false,cs,h=>by simp only[Rel]at h ⊢;obtain⟨arr,e,h⟩:=h;exact⟨arr,e,hl.relF hn h⟩
 | _,_,.tup hl,true,cs,h=>by simp only[Rel]at h
 | _,_,.tup hl,false,cs,h=>by simp only[Rel]at h ⊢;obtain⟨arr,e,h⟩:=h;exact⟨arr,e,hl.relT hn h⟩
theorem NilL.relF{c:Ctx}{nw:List Nat}(hn:NwOK c nw):∀{a b:List AV},NilL nw a b→∀{cs:List Value},RelF c a cs→RelF c b cs
 | _,_,.nil,_,h=>h
 | _,_,.cons h1 h2,cs,h=>by
   simp only[RelF]at h ⊢;obtain⟨c1,c2,e,q1,q2⟩:=h;exact⟨c1,c2,e,h1.rel hn q1,h2.relF hn q2⟩
theorem NilL.relT{c:Ctx}{nw:List Nat}(hn:NwOK c nw):∀{a b:List AV},NilL nw a b→∀{cs:List Value},RelT c a cs→RelT c b cs
 | _,_,.nil,_,h=>h
 | _,_,.cons h1 h2,cs,h=>by
   simp only[RelT]at h ⊢;obtain⟨v,r,e,q1,q2⟩:=h;exact⟨v,r,e,h1.rel hn q1,h2.relT hn q2⟩
end
mutual
inductive OwnF(H:Heap):AV→AV→List Nat→Prop
 | nk {a:AV}:a.nk→OwnF H a a []
 | osl {k ver len e:Nat} {els ys:List AV} {ks:List Nat}:H k=some (.arr ver e els)→len≤els.length→Yq H (els.take len) ys ks→OwnF H (.osl k ver 0 len) (.sl e ys) (k::ks)
 | agg {fs gs:List AV} {ks:List Nat}:Yq H fs gs ks→OwnF H (.agg fs) (.agg gs) ks
 | tup {fs gs:List AV} {ks:List Nat}:Yq H fs gs ks→OwnF H (.tup fs) (.tup gs) ks
inductive Yq(H:Heap):List AV→List AV→List Nat→Prop
 | nil:Yq H [] [] []
 | cons {a b:AV} {l m:List AV} {ks js:List Nat}:OwnF H a b ks→Yq H l m js→Yq H (a::l) (b::m) (ks++js)
end
mutual
theorem OwnF.own{H:Heap}:∀{a b:AV} {ks:List Nat},OwnF H a b ks→Own H a b ks
 | _,_,_,.nk h=> .nk h
 | _,_,_,.osl h1 h2 h3=> .osl h1 h2 h3.own
 | _,_,_,.agg h=> .agg h.own
 | _,_,_,.tup h=> .tup h.own
theorem Yq.own{H:Heap}:∀{a b:List AV} {ks:List Nat},Yq H a b ks→OwnL H a b ks
 | _,_,_,.nil=> .nil
 | _,_,_,.cons h1 h2=> .cons h1.own h2.own
end
mutual
theorem OwnF.frame{H H':Heap}:∀{a b:AV} {ks:List Nat},OwnF H a b ks→(∀k∈ks,H' k=H k)→OwnF H' a b ks
 | _,_,_,.nk h,_=> .nk h
 | _,_,_,.osl h1 h2 h3,hk=> .osl ((hk _ osi).trans h1) h2 (Yq.frame h3 fun k h=>hk k (by simp[h]))
 | _,_,_,.agg h,hk=> .agg (Yq.frame h hk)
 | _,_,_,.tup h,hk=> .tup (Yq.frame h hk)
theorem Yq.frame{H H':Heap}:∀{a b:List AV} {ks:List Nat},Yq H a b ks→(∀k∈ks,H' k=H k)→Yq H' a b ks
 | _,_,_,.nil,_=> .nil
 | _,_,_,.cons h1 h2,hk=> .cons (OwnF.frame h1 fun k h=>hk k (by simp[h])) (Yq.frame h2 fun k h=>hk k (by simp[h]))
end
def Gh(H:Heap)(n:Nat)(H':Heap)(n':Nat)(nw:List Nat):Prop:=∀c w,Sim c H n w→∃c',Step c H w c' H' n' w∧NwOK c' nw
theorem NwOK.le{c c':Ctx}{nw:List Nat}(h:NwOK c nw)(hl:c.le c'):NwOK c' nw:=fun k hk=>hl.ρ (h k hk)
theorem Gh.refl(H:Heap)(n:Nat):Gh H n H n []:=fun c w hs=>⟨c,.refl hs,fun k hk=>by cases hk⟩
theorem Gh.trans{H H1 H2:Heap}{n n1 n2:Nat}{a b:List Nat}(h:Gh H n H1 n1 a)(h':Gh H1 n1 H2 n2 b):Gh H n H2 n2 (a++b):=fun c w hs=>by
 obtain⟨c1,s1,w1⟩:=h c w hs;obtain⟨c2,s2,w2⟩:=h' c1 w s1.sim;exact⟨c2,s1.trans s2,fun k hk=>by rcases List.mem_append.1 hk with hk | hk;exact w1.le s2.le k hk;exact w2 k hk⟩
theorem Gh.nil(H:Heap)(n e:Nat):Gh H n (H.put n (some (.arr 0 e []))) (n+1) [n]:=fun c w hs=>⟨_,RN hs e,fun k hk=>by rw[List.mem_singleton.1 hk];exact Rn⟩
theorem Gh.retell{H H1:Heap}{n n1:Nat}{nw:List Nat}(h:Gh H n H1 n1 nw){k ver e:Nat}{els els':List AV}(hk:H1 k=some (.arr ver e els))(hl:NilL nw els els'):Gh H n (H1.put k (some (.arr ver e els'))) n1 nw:=fun c w hs=>by
 obtain⟨c1,s1,w1⟩:=h c w hs;exact⟨c1,s1.trans (Step.retell s1.sim hk (fun ds hd=>hl.relF w1 hd) hl.len.symm hl.szAll),w1⟩
theorem NilL.app{nw:List Nat}:∀{a b:List AV},NilL nw a b→∀(l:List AV),NilL nw (a++l) (b++l)
 | _,_,.nil,l=>by
   induction l with
   | nil=>exact .nil
   | cons x l ih=>exact .cons .rf ih
 | _,_,.cons h1 h2,l=> .cons h1 (h2.app l)
structure FlS(H:Heap)(n:Nat)(ks:List Nat)(H':Heap)(n':Nat)(ks':List Nat):Prop where
 le:n≤n'
 nd:ks'.Nodup
 sub:∀k∈ks',k∈ks∨(n≤k∧k<n')
 out:∀k,k<n→k∉ks→H' k=H k
mutual
theorem Own.full{H:Heap}:∀{a b:AV} {ks:List Nat},Own H a b ks→∀(H0:Heap) (n:Nat),ks.Nodup→(∀k∈ks,H0 k=H k∧k<n)→∃a' H' n' ks' nw,Gh H0 n H' n' nw∧NilA nw a a'∧OwnF H' a' b ks'∧FlS H0 n ks H' n' ks'
 | a,_,_,.nk h,H0,n,_,_=>⟨a,H0,n,[],[],.refl _ _,.rf,.nk h,Nat.le_refl _,List.nodup_nil,(fun k hk=>by cases hk),fun _ _ _=>rfl⟩
 | _,_,_,.nilsl (e:=e),H0,n,_,_=>⟨.osl n 0 0 0,_,_,[n],[n],.nil H0 n e,.nl osi,.osl (Rm _ _ _) (Nat.le_refl _) .nil,om,osi,(fun k hk=> .inr (by have:=List.mem_singleton.1 hk;omega)),fun k hk _=>Rk _ _ om⟩
 | _,_,_,.osl (k:=k) (ver:=ver) (len:=len) (e:=e) (els:=els) (ys:=ys) (ks:=ks) h1 h2 h3,H0,n,hd,hk=>by
   obtain⟨hkn,hd2⟩:=List.nodup_cons.1 hd;obtain⟨l',H',n',ks',nw,g,hl,ho,hf⟩:=OwnL.full h3 H0 n hd2 fun j hj=>hk j (by simp[hj]);have hk0:=hk k osi;have hkH:H' k=some (.arr ver e els):=(hf.out k hk0.2 hkn).trans (hk0.1.trans h1);have hl2:=hl.app (els.drop len);rw[List.take_append_drop]at hl2;have hk':k∉ks':=fun h=>by rcases hf.sub k h with h | h;exact hkn h;omega
   have hll:l'.length=len:=by rw[←hl.len,qk];omega
   refine⟨.osl k ver 0 len,H'.put k (some (.arr ver e (l'++els.drop len))),n',k::ks',nw,g.retell hkH hl2,.rf,.osl (Rm _ _ _) (by rw[qe];omega) ?_,hf.le,List.nodup_cons.2 ⟨hk',hf.nd⟩,?_,?_⟩
   ·rw[List.take_left' hll];exact ho.frame fun j hj=>Rk _ _ (fun e=>hk' (e▸hj))
   ·intro j hj;rcases List.mem_cons.1 hj with rfl | hj
    ·exact .inl osi
    ·rcases hf.sub j hj with h | h
     ·exact .inl (by simp[h])
     ·exact .inr h
   ·intro j hj hn;rw[Rk _ _ (fun e=>hn (by simp[e]))];exact hf.out j hj fun h=>hn (by simp[h])
 | _,_,_,.agg h,H0,n,hd,hk=>by
   obtain⟨l',H',n',ks',nw,g,hl,ho,hf⟩:=OwnL.full h H0 n hd hk;exact⟨.agg l',H',n',ks',nw,g,.agg hl,.agg ho,hf⟩
 | _,_,_,.tup h,H0,n,hd,hk=>by
   obtain⟨l',H',n',ks',nw,g,hl,ho,hf⟩:=OwnL.full h H0 n hd hk;exact⟨.tup l',H',n',ks',nw,g,.tup hl,.tup ho,hf⟩
theorem OwnL.full{H:Heap}:∀{a b:List AV} {ks:List Nat},OwnL H a b ks→∀(H0:Heap) (n:Nat),ks.Nodup→(∀k∈ks,H0 k=H k∧k<n)→∃a' H' n' ks' nw,Gh H0 n H' n' nw∧NilL nw a a'∧Yq H' a' b ks'∧FlS H0 n ks H' n' ks'
 | _,_,_,.nil,H0,n,_,_=>⟨[],H0,n,[],[],.refl _ _,.nil,.nil,Nat.le_refl _,List.nodup_nil,(fun k hk=>by cases hk),fun _ _ _=>rfl⟩
 | _,_,_,.cons (ks:=ks) (js:=js) h1 h2,H0,n,hd,hk=>by
   obtain⟨d1,d2,d3⟩:=List.nodup_append.1 hd;obtain⟨a',H1,n1,ks1,nw1,g1,hl1,ho1,hf1⟩:=Own.full h1 H0 n d1 fun j hj=>hk j (by simp[hj]);obtain⟨l',H2,n2,ks2,nw2,g2,hl2,ho2,hf2⟩:=OwnL.full h2 H1 n1 d2 fun j hj=>by
     have hj0:=hk j (by simp[hj]);have hjk:j∉ks:=fun h=>d3 j h j hj rfl;exact⟨(hf1.out j hj0.2 hjk).trans hj0.1,by have:=hf1.le;omega⟩
   have hkeep:∀j∈ks1,H2 j=H1 j:=fun j hj=>by
     rcases hf1.sub j hj with h | h
     ·have hj0:=hk j (by simp[h]);exact hf2.out j (by have:=hf1.le;omega) fun h9=>d3 j h j h9 rfl
     ·refine hf2.out j h.2 fun h9=> ?_;have:=(hk j (by simp[h9])).2;omega
   refine⟨a'::l',H2,n2,ks1++ks2,nw1++nw2,g1.trans g2,.cons (hl1.wide fun k h=>by simp[h]) (hl2.wide fun k h=>by simp[h]),.cons (ho1.frame hkeep) ho2,by have:=hf1.le;have:=hf2.le;omega,?_,?_,?_⟩
   ·refine List.nodup_append.2 ⟨hf1.nd,hf2.nd,fun x hx y hy e=> ?_⟩;subst e;rcases hf1.sub x hx with h | h
    ·rcases hf2.sub x hy with h9 | h9
     ·exact d3 x h x h9 rfl
     ·have:=(hk x (by simp[h])).2;have:=hf1.le;omega
    ·rcases hf2.sub x hy with h9 | h9
     ·have:=(hk x (by simp[h9])).2;omega
     ·omega
   ·intro k hk2;rcases List.mem_append.1 hk2 with h | h
    ·rcases hf1.sub k h with h | h
     ·exact .inl (by simp[h])
     ·exact .inr (by have:=hf2.le;omega)
    ·rcases hf2.sub k h with h | h
     ·exact .inl (by simp[h])
     ·exact .inr (by have:=hf1.le;omega)
   ·intro k hkn hkk;have hkk':k∉ks∧k∉js:=⟨fun h=>hkk (by simp[h]),fun h=>hkk (by simp[h])⟩;rw[hf2.out k (by have:=hf1.le;omega) hkk'.2];exact hf1.out k hkn hkk'.1
end
theorem Zn.full{P : Program}{f : FuncId}{args : List AV}{H : Heap}{n : Nat}{K K' : ARes → Heap → Nat → Prop}(h : Zn P f args H n K)
   (V:∀res H1 n1,K res H1 n1→∃r b ks,res= .val r∧Own H1 r b ks∧ks.Nodup∧(∀k∈ks,k<n1)∧∀r' H2 n2 ks',OwnF H2 r' b ks'→FlS H1 n1 ks H2 n2 ks'→K' (.val r') H2 n2):Zn P f args H n K':=by
 intro c w vs hs hr;refine(h c w vs hs hr).mono ?_;rintro e w' ⟨res,c',H',n',hk,hst,hm⟩;obtain⟨r,b,ks,rfl,ho,hd,hlt,hall⟩:=V _ _ _ hk;obtain⟨r',H2,n2,ks',nw,g,hl,ho2,hf⟩:=ho.full H' n' hd fun k hk=>⟨rfl,hlt k hk⟩;obtain⟨c2,s2,w2⟩:=g c' w' hst.sim;refine⟨.val r',c2,H2,n2,hall r' H2 n2 ks' ho2 hf,hst.trans s2,?_⟩;cases e with
 | returned v=>exact hl.rel w2 (Rel.mono s2.le _ _ _ hm)
 | _=>exact hm.elim
end Go.Sx
set_option maxRecDepth 10000
namespace Go.Proofs.YtkmkbndcekklmaaGreatDoor
open Go Go.Sx Go.Rt Go.Proofs
structure BL where
 k:Nat
 v:Nat
 l:Nat
instance:Inhabited BL:=⟨⟨0,0,0⟩⟩
def BL.av(s:BL):AV:= .osl s.k s.v 0 s.l
def mkB(i:Nat):AV:= .int .u8 ((1+i%250:Nat):Int)
def tlB(i:Nat):AV:= .int .u8 ((251+i%5:Nat):Int)
def Mk(H:Heap)(k v e:Nat)(m t:AV)(n a:Nat):Prop:=∃els,H k=some (.arr v e els)∧n+a≤els.length∧∀j,j<n+a→nth els j=if j<n then m else t
theorem Mk.le{H:Heap}{k v e:Nat}{m t:AV}{n a b:Nat}(h:Mk H k v e m t n a)(hb:b≤a):Mk H k v e m t n b:=by
 obtain⟨els,h1,h2,h3⟩:=h;exact⟨els,h1,om,fun j hj=>h3 j om⟩
theorem Mk.frame{H H':Heap}{k v e:Nat}{m t:AV}{n a:Nat}(h:Mk H k v e m t n a)(hk:H' k=H k):Mk H' k v e m t n a:=by
 obtain⟨els,h1,h2,h3⟩:=h;exact⟨els,hk.trans h1,h2,h3⟩
theorem WV{a b:List AV}{j:Nat}(h:j<a.length):nth (a++b) j=nth a j:=by simp[nth,List.getD,List.getElem?_append_left h]
theorem Qj{a b:List AV}{j:Nat}(h:a.length≤j):nth (a++b) j=nth b (j-a.length):=by simp[nth,List.getD,List.getElem?_append_right h]
theorem KP{a:List AV}{i j:Nat}(h:j<i):nth (a.take i) j=nth a j:=by simp[nth,List.getD,List.getElem?_take_of_lt h]
theorem nth_drop(a:List AV)(i j:Nat):nth (a.drop i) j=nth a (i+j):=by simp[nth,List.getD,List.getElem?_drop]
theorem nth_rep{a:AV}{n j:Nat}(h:j<n):nth (List.replicate n a) j=a:=by simp[nth,List.getD,h]
theorem Mk.full{H:Heap}{k v e:Nat}{m t:AV}{n:Nat}{X:List AV}(h:H k=some (.arr v e (List.replicate n m++X.drop n)))(hn:n≤X.length):Mk H k v e m t n 0:=
 ⟨_,h,osi,fun j hj=>by rw[WV (by simpa using hj),nth_rep om,if_pos om]⟩
theorem Mk.new{H H2:Heap}{k v e gk gv:Nat}{m t:AV}{n c b:Nat}{els rest:List AV}(hH:H k=some (.arr v e els))(hM:Mk H k v e m t n c)(h2:H2 gk=some (.arr gv e (els.take (n+c)++List.replicate b t++rest))):Mk H2 gk gv e m t n (c+b):=by
 obtain⟨els',h1,h3,h4⟩:=hM;rw[hH]at h1;cases h1;have hl:(els.take (n+c)).length=n+c:=by rw[qk];omega
 refine⟨_,h2,by simp[hl];omega,fun j hj=> ?_⟩;rw[qf];by_cases hj2:j<n+c
 ·rw[WV om,KP hj2,h4 j hj2]
 ·rw[Qj om,WV oz,nth_rep om,if_neg om]
theorem Mk.stay{H H2 : Heap}{k v e : Nat}{m t : AV}{n a c b : Nat}{els : List AV}(hH : H k = some (.arr v e els))(hc : Mk H k v e m t n c)(ha : Mk H k v e m t n a)
   (h2:H2 k=some (.arr v e (els.take (n+c)++List.replicate b t++els.drop (n+c+b)))):Mk H2 k v e m t n a:=by
 obtain⟨els',h1,h3,h4⟩:=ha;rw[hH]at h1;cases h1;obtain⟨els',h1,h5,h6⟩:=hc;rw[hH]at h1;cases h1;have hl:(els.take (n+c)).length=n+c:=by rw[qk];omega
 refine⟨_,h2,by simp[hl];omega,fun j hj=> ?_⟩;rw[qf];by_cases hj2:j<n+c
 ·rw[WV om,KP hj2,h6 j hj2]
 ·rw[Qj om];by_cases hj3:j<n+c+b
  ·rw[WV oz,nth_rep om,if_neg om]
  ·rw[Qj oz,nth_drop,←h4 j hj];congr 1;simp[hl];omega
theorem Pb{k : AV → Heap → Nat → Prop}{H : Heap}{n kk ver e : Nat}{m t : AV}{l c b : Nat}{els : List AV}(hkk : kk < n)(hH : H kk = some (.arr ver e els))(hM : Mk H kk ver e m t l c)
   (h:∀gk gv H2 n2,n≤n2→gk<n2→(gk=kk∨n≤gk)→Mk H2 gk gv e m t l (c+b)→(∀a,Mk H kk ver e m t l a→Mk H2 kk ver e m t l a)→(∀j,j<n→j≠kk→H2 j=H j)→k (.osl gk gv 0 (l+c+b)) H2 n2):
   AppKM k H n kk ver e (l+c) els (List.replicate b t):=by
 have hlen:(List.replicate b t).length=b:=osi;refine AppKM.all hkk (fun gk gv H2 n2 h1 h2 h3 ⟨rest,h4⟩ h5 h6=> ?_) hH;rw[hlen]at h5 ⊢;refine h gk gv H2 n2 h1 h2 h3 (hM.new hH h4) (fun a ha=> ?_) h6;rcases h5 with h5 | h5
 ·exact ha.frame (h5.trans hH.symm)
 ·exact Mk.stay hH hM ha h5
theorem Mc{mk:AV}{X:List AV}{j:Nat}(h:j<X.length):(List.replicate j mk++X.drop j).set j mk=List.replicate (j+1) mk++X.drop (j+1):=by
 rw[List.set_append_right _ _ osi,List.length_replicate,Nat.sub_self,List.drop_eq_getElem_cons h,List.set_cons_zero,List.replicate_succ',qf];rfl
theorem Pw{mk:AV}{X:List AV}{j:Nat}(h:j≤X.length):(List.replicate j mk++X.drop j).length=X.length:=oz
theorem Pv{mk:AV}{X:List AV}{j:Nat}:nth (List.replicate j mk++X.drop j) j=nth X j:=by
 rw[Qj osi,nth_drop];simp
def Bl0(H:Heap)(e:Nat)(s:BL):Prop:=∃X,H s.k=some (.arr s.v e X)∧s.l≤X.length∧∀j,j<s.l→(nth X j).sz=e
def cnt(r:Nat):Nat:=if r=0 then 1 else if r=1 then 2 else 70
structure Gx(H:Heap)(lo hi:Nat)(s:BL)(i:Nat)(x:BL)(c:Nat):Prop where
 key:x.k=s.k∨lo≤x.k
 lt:x.k<hi
 l:x.l=s.l+c
 mrk:Mk H x.k x.v 1 (mkB i) (tlB i) s.l c
theorem Gx.frame{H H':Heap}{lo hi hi':Nat}{s:BL}{i:Nat}{x:BL}{c:Nat}(h:Gx H lo hi s i x c)(hk:H' x.k=H x.k)(hh:hi≤hi'):Gx H' lo hi' s i x c:=⟨h.key,Nat.lt_of_lt_of_le h.lt hh,h.l,h.mrk.frame hk⟩
structure Fl(bs:List BL)(H0:Heap)(lo kG:Nat)(i:Nat)(ms:List BL)(H:Heap)(n:Nat):Prop where
 len:ms.length=3*i
 mrk:∀j,j<bs.length→Mk H (bs.getD j default).k (bs.getD j default).v 1 (mkB j) (tlB j) (bs.getD j default).l 0
 g:∀k,k<3*i→Gx H lo n (bs.getD (k/3) default) (k/3) (ms.getD k default) (cnt (k%3))
 out:∀k,k<lo→k≠kG→k∉bs.map (·.k)→H k=H0 k
 le:lo≤n
theorem YJ{bs:List BL}{j:Nat}(h:j<bs.length):bs.getD j default∈bs:=by simp[List.getD,List.getElem?_eq_getElem h]
theorem bl_ne{bs:List BL}(hd:(bs.map (·.k)).Nodup){i j:Nat}(hi:i<bs.length)(hj:j<bs.length)(h:i≠j):(bs.getD i default).k≠(bs.getD j default).k:=fun e=>by
 have h1:(bs.map (·.k))[i]'(by simpa using hi)=(bs.map (·.k))[j]'(by simpa using hj):=by simpa [List.getD,List.getElem?_eq_getElem hi,List.getElem?_eq_getElem hj]using e
 exact h ((List.getElem_inj hd).1 h1)
theorem BL.av_sz(s:BL):s.av.sz=1:=rfl
theorem BL.av_mo(s:BL):s.av.memOK=true:=rfl
structure CO where
 fam:Int
 q:BL
 ts:Int
 v:BL
instance:Inhabited CO:=⟨⟨0,default,0,default⟩⟩
def CO.av(c:CO):AV:= .agg [.int .i64 c.fam,c.q.av,.int .i64 c.ts,c.v.av]
structure RO where
 r:BL
 kc:Nat
 vc:Nat
 cs:List CO
instance:Inhabited RO:=⟨⟨default,0,0,[]⟩⟩
def RO.av(r:RO):AV:= .agg [r.r.av,.osl r.kc r.vc 0 r.cs.length]
structure PO where
 kR:Nat
 vR:Nat
 rs:List RO
 t:BL
 done:Bool
def PO.av(p:PO):AV:= .agg [.osl p.kR p.vR 0 p.rs.length,p.t.av,.bool p.done]
def blsC(c:CO):List BL:=[c.q,c.v]
def blsR(r:RO):List BL:=r.r::r.cs.flatMap blsC
def PO.bls(p:PO):List BL:=p.t::p.rs.flatMap blsR
def RO.ks(r:RO):List Nat:=r.r.k::r.kc::(r.cs.flatMap blsC).map (·.k)
def PO.ks(p:PO):List Nat:=p.kR::(p.rs.flatMap RO.ks++[p.t.k])
theorem CO.av_sz(c:CO):c.av.sz=4:=rfl
theorem RO.av_sz(c:RO):c.av.sz=2:=rfl
theorem PO.av_sz(c:PO):c.av.sz=3:=rfl
structure PO.At(H:Heap)(p:PO):Prop where
 rows:∃els,H p.kR=some (.arr p.vR 2 els)∧p.rs.length≤els.length∧∀i,i<p.rs.length→nth els i=(p.rs.getD i default).av
 cells:∀r∈p.rs,∃els,H r.kc=some (.arr r.vc 4 els)∧r.cs.length≤els.length∧∀i,i<r.cs.length→nth els i=(r.cs.getD i default).av
theorem PO.At.frame{H H':Heap}{p:PO}(h:p.At H)(h1:H' p.kR=H p.kR)(h2:∀r∈p.rs,H' r.kc=H r.kc):p.At H':=
 ⟨by obtain⟨e,a,b⟩:=h.rows;exact⟨e,h1.trans a,b⟩,fun r hr=>by obtain⟨e,a,b⟩:=h.cells r hr;exact⟨e,(h2 r hr).trans a,b⟩⟩
theorem perm3{a b c:List Nat}(x y:Nat):(x::y::(a++(b++c))).Perm ((y::b)++(x::(a++c))):=by
 have h1:(a++(b++c)).Perm (b++(a++c)):=by
   rw[←qf,←qf];exact List.Perm.append_right _ List.perm_append_comm
 refine(List.Perm.swap y x _).trans ?_;rw[List.cons_append];refine List.Perm.cons y ?_;exact(List.Perm.cons x h1).trans List.perm_middle.symm
theorem rs_perm:∀(rs:List RO),(rs.flatMap RO.ks).Perm (rs.map (·.kc)++(rs.flatMap blsR).map (·.k))
 | []=> .refl _
 | r::rs=>by
   rw[List.flatMap_cons,List.flatMap_cons,List.map_cons,qj];have h1:=(rs_perm rs).append_left (RO.ks r);refine h1.trans ?_;simp only[RO.ks,blsR,List.map_cons,List.cons_append];exact perm3 _ _
theorem PO.perm(p:PO):p.ks.Perm (p.kR::(p.rs.map (·.kc)++p.bls.map (·.k))):=by
 unfold PO.ks PO.bls;refine List.Perm.cons _ ?_;rw[List.map_cons];refine((rs_perm p.rs).append_right _).trans ?_;rw[qf];refine List.Perm.append_left _ ?_;exact(List.perm_append_comm (l₁:=(p.rs.flatMap blsR).map (·.k)) (l₂:=[p.t.k]))
theorem OwnF.of_nk{H:Heap}{a b:AV}{ks:List Nat}(h:OwnF H a b ks)(hb:b.nk):a=b∧ks=[]:=by
 cases h with
 | nk h=>exact⟨rfl,rfl⟩
 | osl _ _ _=>exact hb.elim
 | agg _=>exact hb.elim
 | tup _=>exact hb.elim
theorem Yq.of_nk{H:Heap}:∀{a b:List AV} {ks:List Nat},Yq H a b ks→(∀x∈b,x.nk)→a=b∧ks=[]
 | _,_,_,.nil,_=>⟨rfl,rfl⟩
 | _,_,_,.cons h1 h2,h=>by
   obtain⟨e1,e2⟩:=OwnF.of_nk h1 (h _ osi);obtain⟨e3,e4⟩:=Yq.of_nk h2 fun x hx=>h x (by simp[hx]);exact⟨by rw[e1,e3],by rw[e2,e4];rfl⟩
theorem RP{H:Heap}{a:AV}{b:List UInt8}{ks:List Nat}(h:OwnF H a (bys b) ks):∃s:BL,a=s.av∧Bl0 H 1 s∧s.l=b.length∧ks=[s.k]:=by
 generalize hb:bys b=v at h;cases h with
 | nk h=>rw[←hb]at h;exact h.elim
 | agg _=>cases hb
 | tup _=>cases hb
 | @osl k ver len e els ys ks h1 h2 h3=>
   obtain⟨rfl,rfl⟩:1=e∧b.map Zd=ys:=by simpa [bys]using hb
   obtain⟨e1,e2⟩:=Yq.of_nk h3 (fun x hx=>by obtain⟨y,_,rfl⟩:=List.mem_map.1 hx;trivial);have hl:len=b.length:=by have:=congrArg List.length e1;rw[qk,qb]at this;omega
   refine⟨⟨k,ver,len⟩,rfl,⟨els,h1,h2,fun j hj=> ?_⟩,hl,by rw[e2]⟩;rw[←KP (i:=len) hj,e1];have:nth (b.map Zd) j=Zd (b.getD j default):=Zr Zd b j (by simpa [hl]using hj);rw[this];rfl
theorem OwnF.of_cel{H:Heap}{a:AV}{c:CelE}{ks:List Nat}(h:OwnF H a (Zj c) ks):∃o:CO,a=o.av∧o.fam=c.fam∧Bl0 H 1 o.q∧Bl0 H 1 o.v∧o.q.l=c.qual.length∧o.v.l=c.value.length∧ks=(blsC o).map (·.k):=by
 cases h with
 | nk h=>exact h.elim
 | agg h=>
   cases h with
   | cons h1 h=>cases h with
     | cons h2 h=>cases h with
       | cons h3 h=>cases h with
         | cons h4 h=>cases h with
           | nil=>
             obtain⟨rfl,rfl⟩:=OwnF.of_nk h1 trivial;obtain⟨rfl,rfl⟩:=OwnF.of_nk h3 trivial;obtain⟨q,rfl,q1,q2,rfl⟩:=RP h2;obtain⟨v,rfl,v1,v2,rfl⟩:=RP h4;exact⟨⟨c.fam,q,c.ts,v⟩,rfl,rfl,q1,v1,q2,v2,rfl⟩
def BlsOK(H:Heap)(B:Nat)(l:List BL):Prop:=∀s∈l,Bl0 H 1 s∧s.l≤B
theorem R4{H:Heap}{B:Nat}:∀{l:List AV} {cs:List CelE} {ks:List Nat},Yq H l (cs.map Zj) ks→(∀c∈cs,c.qual.length≤B∧c.value.length≤B)→∃os:List CO,l=os.map CO.av∧os.map (·.fam)=cs.map (·.fam)∧BlsOK H B (os.flatMap blsC)∧ks=(os.flatMap blsC).map (·.k)
 | _,[],_,.nil,_=>⟨[],rfl,rfl,(fun s hs=>by cases hs),rfl⟩
 | _,c::cs,_,.cons h1 h2,hB=>by
   obtain⟨o,rfl,f1,f2,f3,f4,f5,rfl⟩:=OwnF.of_cel h1;obtain⟨os,rfl,g1,g2,rfl⟩:=R4 h2 fun c hc=>hB c (by simp[hc]);have hb:=hB c osi;refine⟨o::os,rfl,by rw[List.map_cons,List.map_cons,f1,g1],fun s hs=> ?_,by rw[List.flatMap_cons,qj]⟩;rw[List.flatMap_cons,List.mem_append]at hs;rcases hs with hs | hs
   ·simp only[blsC,List.mem_cons,List.not_mem_nil,or_false]at hs;rcases hs with rfl | rfl
    ·exact⟨f2,om⟩
    ·exact⟨f3,om⟩
   ·exact g2 s hs
theorem nth_mapd{α:Type}[Inhabited α]{els:List AV}{l:List α}{f:α→AV}(h:els.take l.length=l.map f){i:Nat}(hi:i<l.length):nth els i=f (l.getD i default):=by
 rw[←KP (i:=l.length) hi,h,Zr f l i hi]
theorem OwnF.of_row{H : Heap}{B : Nat}{a : AV}{r : RowE}{ks : List Nat}(h : OwnF H a (Zf r) ks)(hr : r.row.length ≤ B)(hB : ∀ c ∈ r.cells, c.qual.length ≤ B ∧ c.value.length ≤ B):
   ∃o:RO,a=o.av∧o.cs.map (·.fam)=r.cells.map (·.fam)∧BlsOK H B (blsR o)∧(∃els,H o.kc=some (.arr o.vc 4 els)∧o.cs.length≤els.length∧∀i,i<o.cs.length→nth els i=(o.cs.getD i default).av)∧ks=o.ks:=by
 cases h with
 | nk h=>exact h.elim
 | agg h=>
   cases h with
   | cons h1 h=>cases h with
     | cons h2 h=>cases h with
       | nil=>
         obtain⟨s,rfl,s1,s2,rfl⟩:=RP h1;generalize hv:AV.sl 4 (r.cells.map Zj)=v at h2;cases h2 with
         | nk h=>rw[←hv]at h;exact h.elim
         | agg _=>cases hv
         | tup _=>cases hv
         | @osl k ver len e els ys ks g1 g2 g3=>
           obtain⟨rfl,rfl⟩:4=e∧r.cells.map Zj=ys:=by simpa using hv
           obtain⟨os,q1,q2,q3,rfl⟩:=R4 g3 hB;have hl:len=os.length:=by have:=congrArg List.length q1;rw[qk,qb]at this;omega
           subst hl;refine⟨⟨s,k,ver,os⟩,rfl,q2,fun x hx=> ?_,⟨els,g1,g2,fun i hi=>nth_mapd q1 hi⟩,by simp[RO.ks]⟩;rcases List.mem_cons.1 hx with rfl | hx
           ·exact⟨s1,om⟩
           ·exact q3 x hx
theorem R3{H : Heap}{B : Nat}: ∀ {l : List AV} {rs : List RowE} {ks : List Nat}, Yq H l (rs.map Zf) ks → (∀ r ∈ rs, r.row.length ≤ B ∧ ∀ c ∈ r.cells, c.qual.length ≤ B ∧ c.value.length ≤ B) →
   ∃os:List RO,l=os.map RO.av∧os.map (fun o=>o.cs.map (·.fam))=rs.map (fun r=>r.cells.map (·.fam))∧BlsOK H B (os.flatMap blsR)∧(∀o∈os,∃els,H o.kc=some (.arr o.vc 4 els)∧o.cs.length≤els.length∧∀i,i<o.cs.length→nth els i=(o.cs.getD i default).av)∧ks=os.flatMap RO.ks
 | _,[],_,.nil,_=>⟨[],rfl,rfl,(fun s hs=>by cases hs),(fun s hs=>by cases hs),rfl⟩
 | _,r::rs,_,.cons h1 h2,hB=>by
   have hb:=hB r osi;obtain⟨o,rfl,f1,f2,f3,rfl⟩:=OwnF.of_row h1 hb.1 hb.2;obtain⟨os,rfl,g1,g2,g3,rfl⟩:=R3 h2 fun c hc=>hB c (by simp[hc]);refine⟨o::os,rfl,by rw[List.map_cons,List.map_cons,f1,g1],fun s hs=> ?_,fun s hs=> ?_,by rw[List.flatMap_cons]⟩
   ·rw[List.flatMap_cons,List.mem_append]at hs;rcases hs with hs | hs
    ·exact f2 s hs
    ·exact g2 s hs
   ·rcases List.mem_cons.1 hs with rfl | hs
    ·exact f3
    ·exact g3 s hs
theorem OwnF.of_page{H : Heap}{B : Nat}{a : AV}{z : PgE}{ks : List Nat}(h : OwnF H a (pgAV z) ks)(ht : z.token.length ≤ B)(hB : ∀ r ∈ z.rows, r.row.length ≤ B ∧ ∀ c ∈ r.cells, c.qual.length ≤ B ∧ c.value.length ≤ B):
   ∃p:PO,a=p.av∧p.At H∧p.rs.map (fun o=>o.cs.map (·.fam))=z.rows.map (fun r=>r.cells.map (·.fam))∧BlsOK H B p.bls∧p.t.l=z.token.length∧ks=p.ks:=by
 cases h with
 | nk h=>exact h.elim
 | agg h=>
   cases h with
   | cons h1 h=>cases h with
     | cons h2 h=>cases h with
       | cons h3 h=>cases h with
         | nil=>
           obtain⟨rfl,rfl⟩:=OwnF.of_nk h3 trivial;obtain⟨s,rfl,s1,s2,rfl⟩:=RP h2;generalize hv:AV.sl 2 (z.rows.map Zf)=v at h1;cases h1 with
           | nk h=>rw[←hv]at h;exact h.elim
           | agg _=>cases hv
           | tup _=>cases hv
           | @osl k ver len e els ys ks g1 g2 g3=>
             obtain⟨rfl,rfl⟩:2=e∧z.rows.map Zf=ys:=by simpa using hv
             obtain⟨os,q1,q2,q3,q4,rfl⟩:=R3 g3 hB;have hl:len=os.length:=by have:=congrArg List.length q1;rw[qk,qb]at this;omega
             subst hl;refine⟨⟨k,ver,os,s,z.done⟩,rfl,⟨⟨els,g1,g2,fun i hi=>nth_mapd q1 hi⟩,q4⟩,q2,fun x hx=> ?_,s2,by simp[PO.ks]⟩;rcases List.mem_cons.1 hx with rfl | hx
             ·exact⟨s1,om⟩
             ·exact q3 x hx
structure FF(e:Nat)(mk:Nat→AV)(bs:List BL)(H:Heap)(i:Nat)(H':Heap):Prop where
 mrk:∀j,j<i→j<bs.length→Mk H' (bs.getD j default).k (bs.getD j default).v e (mk j) (mk j) (bs.getD j default).l 0
 bl:∀j,i≤j→j<bs.length→Bl0 H' e (bs.getD j default)
 out:∀k,k∉bs.map (·.k)→H' k=H k
section
variable {e:Nat}{mk:Nat→AV}{bs:List BL}
theorem FF.init{H:Heap}(h:∀s∈bs,Bl0 H e s):FF e mk bs H 0 H:=⟨fun j hj=>om,fun j _ hj=>h _ (YJ hj),fun _ _=>rfl⟩
theorem FF.step{H H1 H2 : Heap}{i : Nat}(h : FF e mk bs H i H1)(hd : (bs.map (·.k)).Nodup)(hi : i < bs.length){X : List AV}(hX : (bs.getD i default).l ≤ X.length)(h2 : H2 (bs.getD i default).k = some (.arr (bs.getD i default).v e (List.replicate (bs.getD i default).l (mk i) ++ X.drop (bs.getD i default).l)))
   (hr:∀k,k≠(bs.getD i default).k→H2 k=H1 k):FF e mk bs H (i+1) H2:=by
 refine⟨fun j hj hj2=> ?_,fun j hj hj2=> ?_,fun k hk=> ?_⟩
 ·by_cases e:j=i
  ·subst e;exact Mk.full h2 hX
  ·exact(h.mrk j om hj2).frame (hr _ (bl_ne hd hj2 hi e))
 ·obtain⟨Y,a,b⟩:=h.bl j om hj2;exact⟨Y,(hr _ (bl_ne hd hj2 hi om)).trans a,b⟩
 ·rw[hr k (fun e=>hk (by rw[e];exact List.mem_map.2 ⟨_,YJ hi,rfl⟩))];exact h.out k hk
end
structure GX(e:Nat)(m:AV)(H:Heap)(lo hi:Nat)(s x:BL)(c:Nat):Prop where
 key:x.k=s.k∨lo≤x.k
 lt:x.k<hi
 l:x.l=s.l+c
 mrk:Mk H x.k x.v e m m s.l c
section
variable {e:Nat}{m:AV}{H H' H2:Heap}{lo hi hi' hi2:Nat}{s x:BL}{c:Nat}
theorem GX.frame(h:GX e m H lo hi s x c)(hk:H' x.k=H x.k)(hh:hi≤hi'):GX e m H' lo hi' s x c:=⟨h.key,Nat.lt_of_lt_of_le h.lt hh,h.l,h.mrk.frame hk⟩
theorem GX.keep{kk ver : Nat}{els : List AV}(h : GX e m H lo hi s x c)(hkk : H kk = some (.arr ver e els))(hkeep : ∀ a, Mk H kk ver e m m s.l a → Mk H2 kk ver e m m s.l a)
   (hrest:∀j,j<hi→j≠kk→H2 j=H j) (hh:hi≤hi2):GX e m H2 lo hi2 s x c:=by
 by_cases e:x.k=kk
 ·have hv : x.v = ver := by
    obtain⟨els',a,_⟩:=h.mrk;rw[e,hkk]at a;simp only[Option.some.injEq,AObj.arr.injEq]at a;exact a.1.symm
  exact⟨h.key,Nat.lt_of_lt_of_le h.lt hh,h.l,by rw[e,hv];exact hkeep _ (by rw[←e,←hv];exact h.mrk)⟩
 ·exact h.frame (hrest _ h.lt e) hh
end
structure GG(e:Nat)(mk:Nat→AV)(cn:Nat→Nat)(bs:List BL)(H0:Heap)(lo kG i:Nat)(ms:List BL)(H:Heap)(n:Nat):Prop where
 len:ms.length=i
 mrk:∀j,j<bs.length→Mk H (bs.getD j default).k (bs.getD j default).v e (mk j) (mk j) (bs.getD j default).l 0
 g:∀k,k<i→GX e (mk k) H lo n (bs.getD k default) (ms.getD k default) (cn (bs.getD k default).l)
 out:∀k,k<lo→k≠kG→k∉bs.map (·.k)→H k=H0 k
 le:lo≤n
theorem getD_app1{ms:List BL}{x:BL}{i k:Nat}(h:ms.length=i):(ms++[x]).getD k default=if k<i then ms.getD k default else if k=i then x else default:=by
 by_cases h1:k<i
 ·rw[if_pos h1];simp[List.getD,List.getElem?_append_left (show k<ms.length by omega)]
 ·rw[if_neg h1];simp only[List.getD];rw[List.getElem?_append_right om,h];by_cases h2:k=i
  ·subst h2;simp
  rw[if_neg h2,List.getElem?_eq_none oz];rfl
section
variable {e:Nat}{mk:Nat→AV}{cn:Nat→Nat}{bs:List BL}{H0:Heap}{lo kG i:Nat}{ms:List BL}{H1 H3:Heap}{n1 n3:Nat}
theorem GG.init{n:Nat}{o:Option AObj}(h:FF e mk bs H0 bs.length H1)(hlo:∀s∈bs,s.k<n+1∧s.k≠n):GG e mk cn bs H0 (n+1) n 0 [] (H1.put n o) (n+1):=
 ⟨rfl,fun j hj=>(h.mrk j hj hj).frame (Rk _ _ (hlo _ (YJ hj)).2),fun k hk=>om,fun k hk hn hb=>(Rk _ _ hn).trans (h.out k hb),Nat.le_refl _⟩
theorem GG.step(h : GG e mk cn bs H0 lo kG i ms H1 n1)(hd : (bs.map (·.k)).Nodup)(hlo : ∀ s ∈ bs, s.k < lo ∧ s.k ≠ kG)(hG : kG < lo)(hi : i < bs.length)(hn : n1 ≤ n3)
   {x:BL} (hx:GX e (mk i) H3 n1 n3 (bs.getD i default) x (cn (bs.getD i default).l))
   (hm:Mk H3 (bs.getD i default).k (bs.getD i default).v e (mk i) (mk i) (bs.getD i default).l 0) (hH:∀j,j<n1→j≠(bs.getD i default).k→j≠kG→H3 j=H1 j):
   GG e mk cn bs H0 lo kG (i+1) (ms++[x]) H3 n3:=by
 have hle:=h.le;refine⟨by rw[qe,h.len];simp,fun j hj=> ?_,fun k hk=> ?_,fun k hk hg hb=> ?_,om⟩
 ·by_cases e:j=i
  ·subst e;exact hm
  ·have:=hlo _ (YJ hj);exact(h.mrk j hj).frame (hH _ om (bl_ne hd hj hi e) this.2)
 ·rw[getD_app1 h.len];by_cases h1:k<i
  ·rw[if_pos h1];have hg:=h.g k h1;have hk3:k<bs.length:=om;have h9:=hlo _ (YJ hk3);have h8:=hlo _ (YJ hi);refine hg.frame (hH _ hg.lt (fun e=> ?_) (fun e=> ?_)) hn
   ·rcases hg.key with h2 | h2
    ·exact bl_ne hd hk3 hi om (h2.symm.trans e)
    ·omega
   ·rcases hg.key with h2 | h2
    ·exact h9.2 (h2.symm.trans e)
    ·omega
  ·obtain rfl:k=i:=om;rw[if_neg h1,if_pos rfl];exact⟨hx.key.imp id fun h=>om,hx.lt,hx.l,hx.mrk⟩
 ·rw[hH k om (fun e=>hb (by rw[e];exact List.mem_map.2 ⟨_,YJ hi,rfl⟩)) hg];exact h.out k hk hg hb
end
def mkS(i:Nat):AV:= .int .u8 ((1+i%251:Nat):Int)
def mkC(i:Nat):AV:= .agg [.int .i64 (-100-(i:Int)),.nilsl,.int .i64 0,.nilsl]
def mkR(i:Nat):AV:= .agg [.nilsl,.sl 4 [.agg [.int .i64 (-7-(i:Int)),.nilsl,.int .i64 0,.nilsl]]]
theorem markS(i:Nat)(h:i<4611686018427387904):IntKind.u8.wrap (IntKind.i64.wrap (1+(i:Int).tmod 251))=((1+i%251:Nat):Int):=by
 have h1:(i:Int).tmod 251=((i%251:Nat):Int):=by rw[Int.tmod_eq_emod_of_nonneg om];omega
 rw[h1,w64 om om,IntKind.wrap_u8];omega
def BlW(H:Heap)(s:BL)(w:List UInt8):Prop:=∃X,H s.k=some (.arr s.v 1 (w.map Zd++X))∧s.l=w.length
theorem BlW.frame{H H':Heap}{s:BL}{w:List UInt8}(h:BlW H s w)(hk:H' s.k=H s.k):BlW H' s w:=by
 obtain⟨X,a,b⟩:=h;exact⟨X,hk.trans a,b⟩
theorem BlW.own{H:Heap}{s:BL}{w:List UInt8}(h:BlW H s w):Own H s.av (bys w) [s.k]:=by
 obtain⟨X,a,b⟩:=h;have:Own H (.osl s.k s.v 0 s.l) (.sl 1 (w.map Zd)) [s.k]:= .osl a (by simp[b]) (by rw[b,List.take_left' osi];exact RD _ fun x hx=>by obtain⟨y,_,rfl⟩:=List.mem_map.1 hx;trivial);exact this
theorem BlW.frz{H:Heap}{s:BL}{w:List UInt8}(h:BlW H s w):Frz H 0 s.av (bys w):=h.own.frz fun _ _=>Nat.zero_le _
theorem BlW.bl0{H:Heap}{s:BL}{w:List UInt8}(h:BlW H s w):Bl0 H 1 s:=by
 obtain⟨X,a,b⟩:=h;refine⟨_,a,by simp[b],fun j hj=> ?_⟩;rw[WV (by simpa [←b]using hj)];have:nth (w.map Zd) j=Zd (w.getD j default):=Zr Zd w j om;rw[this];rfl
theorem RX{H:Heap}{s:BL}{w:List UInt8}{ks:List Nat}(h:OwnF H s.av (bys w) ks):BlW H s w:=by
 have h1:OwnF H (.osl s.k s.v 0 s.l) (.sl 1 (w.map Zd)) ks:=h;cases h1 with
 | @osl _ _ _ _ els _ _ h1 h2 h3=>
   obtain⟨e1,_⟩:=Yq.of_nk h3 (fun x hx=>by obtain⟨y,_,rfl⟩:=List.mem_map.1 hx;trivial);refine⟨els.drop s.l,?_,?_⟩
   ·rw[←e1,List.take_append_drop];exact h1
   ·have:=congrArg List.length e1;rw[qk,qb]at this;omega
end Go.Proofs.YtkmkbndcekklmaaGreatDoor