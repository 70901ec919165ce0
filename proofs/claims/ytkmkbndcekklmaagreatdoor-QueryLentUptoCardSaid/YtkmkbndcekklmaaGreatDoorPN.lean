/- Own layer: rows put in order are as a source must tell them. Plain; no condition. -/
import Derived.Test.YtkmkbndcekklmaaGreatDoorPM
import Derived.Test.YtkmkbndcekklmaaGreatDoorPF
import Derived.Test.YtkmkbndcekklmaaGreatDoorPL
import Derived.Test.YtkmkbndcekklmaaGreatDoorPJ
set_option linter.unusedSimpArgs false
set_option linter.unusedVariables false
set_option maxRecDepth 10000
namespace Go.Proofs.YtkmkbndcekklmaaGreatDoor
open Go Go.Sx Go.Rt Go.Proofs
theorem pos_split(l:List RowE)(r:List UInt8):∃W D,l=W++D∧l.take (posN l r)=W∧l.drop (posN l r)=D∧posN l r=W.length∧(∀y∈W,Lib.compareBytes y.row r<0)∧(∀d ds,D=d::ds→¬Lib.compareBytes d.row r<0):=by
 obtain⟨W,hW⟩:∃W,W=l.takeWhile fun y=>decide (Lib.compareBytes y.row r<0):=⟨_,rfl⟩;obtain⟨D,hD⟩:∃D,D=l.dropWhile fun y=>decide (Lib.compareBytes y.row r<0):=⟨_,rfl⟩;have e:l=W++D:=by rw[hW,hD,List.takeWhile_append_dropWhile]
 have hp:posN l r=W.length:=by rw[hW];rfl
 refine ⟨W, D, e, by rw [hp]; conv => lhs; rw [e]
                     exact List.take_left, by rw [hp]; conv => lhs; rw [e]
                                              exact List.drop_left,hp,fun y hy=> ?_,fun d ds hd=> ?_⟩
 ·rw[hW]at hy;have:∀(l:List RowE),y∈l.takeWhile (fun y=>decide (Lib.compareBytes y.row r<0))→Lib.compareBytes y.row r<0:=fun l=>by
    induction l with
    | nil=>intro h;simp at h
    | cons a l ih=>
      intro h;rw[List.takeWhile_cons]at h;split at h
      ·rename_i ha;rcases List.mem_cons.1 h with rfl | h
       ·simpa using ha
       ·exact ih h
      ·simp at h
  exact this l hy
 ·rw[hd]at hD;have:∀(l:List RowE),d::ds=l.dropWhile (fun y=>decide (Lib.compareBytes y.row r<0))→¬Lib.compareBytes d.row r<0:=fun l=>by
    induction l with
    | nil=>intro h;simp at h
    | cons a l ih=>
      intro h;rw[List.dropWhile_cons]at h;split at h
      ·exact ih h
      ·rename_i ha;cases h;simpa using ha
  exact this l hD
theorem putN_up{l:List RowE}{r:RowE}(h:upL l):upL (putN l r):=by
 obtain⟨W,D,e,e1,e2,e3,hW,hD⟩:=pos_split l r.row;unfold putN;split
 ·exact h
 rename_i hn;rw[e1,e2];unfold upL at h ⊢;rw[e,List.pairwise_append]at h;obtain⟨h1,h2,h3⟩:=h;have hr:∀d∈D,Lib.compareBytes r.row d.row<0:=by
   cases D with
   | nil=>intro d hd;cases hd
   | cons d ds=>
     have hd:=hD d ds rfl;have hne:d.row≠r.row:=fun e9=>hn ⟨by rw[e3,e];simp,by rw[e3,e];simp[List.getD,e9]⟩;have h0:Lib.compareBytes r.row d.row<0:=by
       have a1:=Qp d.row r.row;have a2:=JJ r.row d.row;have:Lib.compareBytes d.row r.row≠0:=fun h=>hne (a1.1 h);exact a2.2 om
     intro y hy;rcases List.mem_cons.1 hy with rfl | hy
     ·exact h0
     ·exact U0 h0 (by have:=(List.pairwise_cons.1 h2).1 y hy;omega)
 rw[qf,List.pairwise_append];refine⟨h1,List.pairwise_cons.2 ⟨hr,h2⟩,fun a ha b hb=> ?_⟩;rcases List.mem_cons.1 hb with rfl | hb
 ·exact hW a ha
 ·exact h3 a ha b hb
theorem mem_putN{l:List RowE}{r y:RowE}(h:y∈putN l r):y=r∨y∈l:=by
 unfold putN at h;split at h
 ·exact .inr h
 ·rw[qf,List.mem_append,List.singleton_append,List.mem_cons]at h;rcases h with h | h | h
  ·exact .inr (List.mem_of_mem_take h)
  ·exact .inl h
  ·exact .inr (List.mem_of_mem_drop h)
theorem trim_good{nf:Nat}{x:RowE}(h:¬(x.row.length<1∨256<x.row.length)):VA nf (Nr nf x):=by
 refine⟨by show x.row.length≠0;omega,by show x.row.length≤256;omega,?_⟩;unfold YY Nr;rw[List.any_eq_false];intro c hc;have:=(List.mem_filter.1 hc).2;unfold Vp at this;simp only[Bool.and_eq_true,decide_eq_true_eq]at this;unfold bout;simp;omega
theorem JH(nf:Nat)(P:RowE→Prop):∀(m l:List RowE),upL l→(∀x∈l,VA nf x∧P x)→(∀x∈m,P (Nr nf x))→upL (m.foldl (UR nf) l)∧∀x∈m.foldl (UR nf) l,VA nf x∧P x
 | [],l,h1,h2,_=>⟨h1,h2⟩
 | x::m,l,h1,h2,h3=>by
   rw[List.foldl_cons];refine JH nf P m _ ?_ ?_ fun y hy=>h3 y (by simp[hy])
   ·unfold UR;split
    ·exact h1
    ·exact putN_up h1
   ·unfold UR;split
    ·exact h2
    ·rename_i hx;intro y hy;rcases mem_putN hy with rfl | hy
     ·exact⟨trim_good hx,h3 x osi⟩
     ·exact h2 y hy
theorem neatE_up(nf:Nat)(l:List RowE):upL (UX nf l):=(JH nf (fun _=>True) _ [] List.Pairwise.nil (fun x hx=>by cases hx) fun _ _=>trivial).1
theorem neatE_good(nf:Nat)(l:List RowE):∀x∈UX nf l,VA nf x:=fun x hx=>((JH nf (fun _=>True) _ [] List.Pairwise.nil (fun x hx=>by cases hx) fun _ _=>trivial).2 x hx).1
theorem neatE_len(nf:Nat)(l:List RowE):(UX nf l).length≤40:=Nat.le_trans (neatF_len _ _) (by rw[qk];omega)
theorem neatE_ok{nf:Nat}{l:List RowE}(h:YA l):YA (UX nf l):=by
 refine⟨by have:=neatE_len nf l;omega,fun x hx=> ?_⟩;have:=((JH nf (fun x=>x.row.length≤1099511627776∧x.cells.length≤1048576∧∀c∈x.cells,c.qual.length≤1099511627776∧c.value.length≤1099511627776) (l.take 40) [] List.Pairwise.nil (fun x hx=>by cases hx) fun x hx=>by
   obtain⟨a,b,c⟩:=h.2 x (List.mem_of_mem_take hx);exact⟨a,Nat.le_trans (List.length_filter_le _ _) b,fun d hd=>c d (List.mem_filter.1 hd).1⟩).2 x hx).2
 exact this
def atZ(q:QryE):Int:=if q.time≠0 then q.time else 5
def QE(q:QryE)(V:List RowE)(j:Nat):List UInt8:=if j=0 then[]else tokB q (atZ q) (V.getD (j-1) default).row
def qAt(q:QryE)(V:List RowE)(j:Nat)(m:Int):QryE:={q with token:=QE q V j,rows:=m}
structure XZ(fs:List Fml)(q:QryE)(l V:List RowE):Prop where
 fine:q.fine
 good:qcE fs q=0
 tok:q.token=[]
 up:upL l
 rows:∀x∈l,VA fs.length x
 all:V=allV q (Z6 fs q) l
section
variable {fs:List Fml}{q:QryE}{l V:List RowE}
theorem XZ.mem(h:XZ fs q l V){y:RowE}(hy:y∈V):YX q y.row=true∧y.row.length≠0∧y.row.length≤256:=by
 rw[h.all]at hy;unfold allV visL at hy;obtain⟨x,hx,rfl⟩:=List.mem_map.1 hy;obtain⟨h1,h2⟩:=List.mem_filter.1 hx;have hg:=h.rows x (Lb.1 h1);unfold visB at h2;simp only[Bool.and_eq_true]at h2;exact⟨h2.1,hg.1,hg.2.1⟩
theorem XZ.len(h:XZ fs q l V):V.length≤l.length:=by
 rw[h.all];unfold allV visL;rw[qb];refine Nat.le_trans (List.length_filter_le _ _) ?_;unfold dirL;split<;>simp
theorem XZ.time(h:XZ fs q l V):0≤q.time∧q.time≤1099511627776:=by
 have:=(LM h.good).2.1;unfold Yy Uo at this;simp only[Bool.and_eq_true,decide_eq_true_eq]at this;exact⟨this.2.1.1.1.1.1.2,this.2.1.1.1.1.2⟩
theorem atZ_in(h:XZ fs q l V):1≤atZ q∧atZ q≤1099511627776∧(q.time=0∨q.time=atZ q):=by
 have:=h.time;unfold atZ;split
 ·exact⟨om,om,.inr rfl⟩
 ·exact⟨om,om,.inl om⟩
theorem pgTok_len(h:XZ fs q l V)(j:Nat)(hj:j≤V.length):(QE q V j).length≤300:=by
 unfold QE;split
 ·exact Nat.zero_le _
 ·rename_i h0;refine tokB_len _ _ _ (h.mem ?_).2.2;exact Yj V om
theorem XZ.read(h:XZ fs q l V){j:Nat}(hj:j≤V.length)(m:Int):Zz (qAt q V j m)=if j=0 then(0,[],0)else(atZ q,(V.getD (j-1) default).row,0):=by
 by_cases h0:j=0
 ·rw[if_pos h0];exact readQ_nil (by unfold qAt QE;rw[if_pos h0])
 ·rw[if_neg h0];obtain⟨a1,a2,a3⟩:=atZ_in h;have hm:V.getD (j-1) default∈V:=Yj V om;obtain⟨m1,m2,m3⟩:=h.mem hm;exact readQ_tok (q:=qAt q V j m) (by unfold qAt QE;rw[if_neg h0];rfl) a1 a2 a3 m2 m3 m1
theorem XZ.check(h:XZ fs q l V){j:Nat}(hj:j≤V.length){m:Int}(m1:1≤m)(m2:m≤1000):qcE fs (qAt q V j m)=0:=by
 have hp:=LM h.good;have hf:Yy fs.length (qAt q V j m)=true:=by
   have h2:=hp.2.1;unfold Yy Uo at h2 ⊢;unfold qAt;simp only[Bool.and_eq_true,decide_eq_true_eq]at h2 ⊢;exact⟨⟨h2.1.1,h2.1.2⟩,⟨h2.2.1.1,m1⟩,m2⟩
 rw[qcE_of hp.1 hf hp.2.2.1,h.read hj];split<;>rfl
theorem XZ.left(h:XZ fs q l V){j:Nat}(hj:j≤V.length)(m:Int):visL (qAt q V j m) (Z6 fs (qAt q V j m)) (Wx (qAt q V j m) l)=V.drop j:=by
 have ht:Z6 fs (qAt q V j m)=Z6 fs q:=rfl;have ha:allV (qAt q V j m) (Z6 fs q) l=V:=h.all.symm;rw[ht];by_cases h0:j=0
 ·rw[from_none (by unfold qAt QE;rw[if_pos h0]),ha,h0];rfl
 ·have hr:=h.read hj m;rw[if_neg h0]at hr;have hl:j-1<(allV (qAt q V j m) (Z6 fs q) l).length:=by rw[ha];omega
  have hrow:(V.getD (j-1) default).row=((allV (qAt q V j m) (Z6 fs q) l)[j-1]).row:=by
    have e:(allV (qAt q V j m) (Z6 fs q) l)[j-1]=(allV (qAt q V j m) (Z6 fs q) l).getD (j-1) default:=by simp[List.getD,hl]
    rw[e,ha]
  rw[hrow]at hr;have:=from_at h.up hl hr (atZ_in h).1;rw[this,ha,show j-1+1=j by omega]
theorem XZ.at(h:XZ fs q l V){j:Nat}(hj:j≤V.length)(m:Int){c:Int}(c1:1≤c)(c2:c≤1099511627776)(hc:j=0→c=5∨q.time≠0):atE (qAt q V j m) c=(atZ q,0):=by
 have hr:=h.read hj m;obtain⟨a1,a2,a3⟩:=atZ_in h;unfold atE;rw[if_neg om,hr];by_cases h0:j=0
 ·rw[if_pos h0];simp only;rw[if_neg osi,if_neg osi];show(if q.time≠0 then(q.time,(0:Int))else(c,0))=_;unfold atZ;by_cases ht:q.time=0
  ·rw[if_neg (by simp[ht]),if_neg (by simp[ht])];rcases hc h0 with h5 | h5
   ·rw[h5]
   ·exact absurd ht h5
  ·rw[if_pos ht,if_pos ht]
 ·rw[if_neg h0];simp only;rw[if_neg osi,if_pos om]
def pgAt(q:QryE)(V:List RowE)(j:Nat)(m:Int):PgE:=if ((V.drop j).length:Int)<m then⟨V.drop j,[],true⟩else⟨(V.drop j).take m.toNat,QE q V (j+m.toNat),false⟩
theorem XZ.page(h : XZ fs q l V){j : Nat}(hj : j ≤ V.length){m : Int}(m1 : 1 ≤ m)(m2 : m ≤ 1000){c : Int}(c1 : 1 ≤ c)(c2 : c ≤ 1099511627776)(hc : j = 0 → c = 5 ∨ q.time ≠ 0):
   (runE fs (qAt q V j m) c (some (Wx (qAt q V j m) l,0))).2.2=0∧(runE fs (qAt q V j m) c (some (Wx (qAt q V j m) l,0))).1=pgAt q V j m:=by
 obtain⟨m',hm'⟩:=run_from (h.check hj m1 m2) ⟨c1,c2⟩ h.up h.rows;rw[hm'];refine⟨rfl,?_⟩;rw[h.left hj,h.at hj m c1 c2 hc];show Ke (qAt q V j m) (tokB (qAt q V j m) (atZ q)) (V.drop j)=_;unfold Ke pgAt;have e:(qAt q V j m).rows=m:=rfl;rw[e];split
 ·rfl
 ·rename_i hn;congr 1;unfold QE;rw[if_neg om];have hi:j+m.toNat-1<V.length:=by rw[List.length_drop]at hn;omega
  show tokB q (atZ q) ((V.drop j).getD (m.toNat-1) default).row=_;rw[show(V.drop j).getD (m.toNat-1) default=V.getD (j+m.toNat-1) default by simp[List.getD,List.getElem?_drop];rw[show j+(m.toNat-1)=j+m.toNat-1 by omega]]
theorem XZ.fineAt(h:XZ fs q l V){j:Nat}(hj:j≤V.length)(m:Int):(qAt q V j m).fine:=⟨h.fine.frm,h.fine.to,h.fine.fams,h.fine.pre,h.fine.whr,by have:=pgTok_len h j hj;show(QE q V j).length≤_;omega⟩
end
open Tryz
theorem NU10.eqs{P Q:Prop}(g:Imp P Q:=by(try simp only[go_sem,seval,hszs,hags,hmos,hnum,hnua,hnum2,hszq,hagq,hmoq,hszp,hagp,hmop,f1,f2,f3,f4,f5,f6,b1,b2,b3,b4,g1,g2,g3,g4,g5,e1,e2,qg,qb,qd]);exact Imp.rf):Imp P Q:=g
theorem NU10.inz{P Q:Prop}(g:Imp P Q:=by refine Imp.up eqs ?_;(repeat (first | (refine Imp.nd ?_ ?_;· first | (intros;simp_all;done)) | refine Imp.pl ?_));exact Imp.rf):Imp P Q:=g
theorem rowsOK_app{a b:List RowE}(ha:YA a)(hb:YA b)(h:a.length+b.length≤1048576):YA (a++b):=
 ⟨by rw[qe];exact h,fun x hx=>by rcases List.mem_append.1 hx with h | h;exact ha.2 x h;exact hb.2 x h⟩
theorem ask_of(fs:List Fml)(h:Zy fs=0){q:QryE}(hq:q.fine)(l:List RowE):XZ fs (Yi fs q) (UX fs.length l) (allV (Yi fs q) (Z6 fs (Yi fs q)) (UX fs.length l)):=
 ⟨goodE_fine hq,Pm h q,ME _ _,neatE_up _ _,neatE_good _ _,rfl⟩
theorem NU20.eqs{P Q:Prop}(g:Imp P Q:=by(try simp only[go_sem,seval,c1,c2,hszs,hags,hmos,hnum,hnua,hnum2,hszq,hagq,hmoq,f1,f2,f3,f4,f5,f6,b1,b2,g1,g2,qg,qb,qd]);exact Imp.rf):Imp P Q:=g
theorem NU30.eqs{P Q:Prop}(g:Imp P Q:=by(try simp only[go_sem,seval,c1,c2,hszs,hags,hmos,hnum,hnua,hnum2,hszq,hagq,hmoq,f1,f2,f3,f4,f5,f6,b1,b2,g1,g2,qg,qb,qd]);exact Imp.rf):Imp P Q:=g
def behind(rev:Bool)(A:List RowE)(y:RowE):Prop:=∀a∈A,dirB rev a.row y.row
instance (rev:Bool)(A:List RowE)(y:RowE):Decidable (behind rev A y):=by unfold behind;infer_instance
def remV(rev:Bool)(A V:List RowE):List RowE:=V.filter fun y=>decide (behind rev A y)
structure MvS(q:QryE)(V A:List RowE):Prop where
 up:A.Pairwise fun a b=>dirB q.rev a.row b.row
 ok:∀y∈A,YX q y.row=true∧y.row.length≠0∧y.row.length≤256
 cov:∀y∈V,(∃a∈A,a.row=y.row)∨behind q.rev A y
theorem MvS.nil(q:QryE)(V:List RowE):MvS q V []:=⟨List.Pairwise.nil,(fun y h=>by cases h),fun y _=> .inr (fun a h=>by cases h)⟩
section
variable {fs:List Fml}{q:QryE}{l V A:List RowE}
end
structure MvI(q:QryE)(V A:List RowE)(i:Nat)(dn:Bool):Prop where
 st:MvS q V A
 all:dn=true→∀w∈V,∃a∈A,a.row=w.row
 few:dn=false→i≤40∨(remV q.rev A V).length+i≤80
 len:A.length≤i
theorem NU50.eqs{P Q:Prop}(g:Imp P Q:=by(try simp only[go_sem,seval,c1,c2,hszs,hags,hmos,hnum,hnua,hnum2,hszq,hagq,hmoq,hszp,hagp,hmop,f1,f2,f3,f4,f5,f6,b1,b2,b3,b4,b5,g1,g2,g3,g4,g5,g6,e1,e2,qg,qb,qd]);exact Imp.rf):Imp P Q:=g
structure PgF(lo hi:Nat)(z:PgE)(H:Heap)(p:PO):Prop where
 own:OwnF H p.av (pgAV z) p.ks
 at_:p.At H
 fam:p.rs.map (fun o=>o.cs.map (·.fam))=z.rows.map (fun r=>r.cells.map (·.fam))
 bls:BlsOK H 1099511627776 p.bls
 tok:p.t.l=z.token.length
 nd:p.ks.Nodup
 keys:∀k∈p.ks,lo≤k∧k<hi
theorem PO.mem_ks{p:PO}{k:Nat}:k∈p.ks↔k=p.kR∨(k∈p.rs.map (·.kc)∨k∈p.bls.map (·.k)):=by
 rw[p.perm.mem_iff,List.mem_cons,List.mem_append]
theorem PgF.frame{lo hi lo' hi':Nat}{z:PgE}{H H':Heap}{p:PO}(h:PgF lo hi z H p)(hH:∀k∈p.ks,H' k=H k)(h1:lo'≤lo)(h2:hi≤hi'):PgF lo' hi' z H' p:=
 ⟨h.own.frame hH,h.at_.frame (hH _ (PO.mem_ks.2 (.inl rfl))) (fun r hr=>hH _ (PO.mem_ks.2 (.inr (.inl (List.mem_map.2 ⟨r,hr,rfl⟩))))),h.fam,
   fun s hs=>⟨by obtain⟨X,a,b⟩:=(h.bls s hs).1;exact⟨X,(hH _ (PO.mem_ks.2 (.inr (.inr (List.mem_map.2 ⟨s,hs,rfl⟩))))).trans a,b⟩,(h.bls s hs).2⟩,h.tok,h.nd,fun k hk=>by have:=h.keys k hk;omega⟩
theorem Kg(fs : List Fml)(hfs : fs.length ≤ 1048576)(q : QryE)(hqf : q.fine)(clock : Int)(rows : List RowE)(err : Int)(hrw : YA rows)(ks : Nat){H : Heap}{n : Nat}(hG : GOK 1 1 H n)(hs : H ks = some (srcN rows err))
   {z:PgE} (hz:(runE fs q clock (some (rows,err))).1=z) (he:(runE fs q clock (some (rows,err))).2.2=0) (ht:z.token.length≤1099511627776) (hB:∀r∈z.rows,r.row.length≤1099511627776∧∀c∈r.cells,c.qual.length≤1099511627776∧c.value.length≤1099511627776):
   Zn prog 18 [Zh fs,Ze q,.int .i64 clock,.iface 52 (.loc ks 0 0 0 [])] H n fun res H' n'=>n≤n'∧(∀k,k<n→k≠ks→H' k=H k)∧∃p:PO,res= .val (.tup [p.av,.int .i64 0])∧PgF n n' z H' p:=by
 refine(Mx fs hfs q hqf clock rows err hrw ks hG hs).full fun res H1 n1 h=> ?_;rw[RunO,hz,he]at h;obtain⟨h1,h2,a,pk,hr,ho,hd,hp⟩:=h;have e:=RS (j:= .i64) (y:=0) ho;refine⟨_,_,pk,hr,e,hd,fun k hk=>(hp k hk).2,fun r' H2 n2 ks' ho2 hf=> ?_⟩;cases ho2 with
 | nk h=>exact h.elim
 | tup h3=>cases h3 with
   | cons h4 h3=>cases h3 with
     | cons h5 h3=>cases h3 with
       | nil=>
         obtain⟨rfl,rfl⟩:=OwnF.of_nk h5 trivial;obtain⟨p,rfl,p1,p2,p3,p4,rfl⟩:=OwnF.of_page h4 ht hB;have hf':=hf;simp only[List.append_nil]at hf';have hle:=hf'.le;refine⟨om,fun k hk hne=>(hf'.out k om (fun hm=>by have:=(hp k hm).1;omega)).trans (h2 k hk hne),p,rfl,h4,p1,p2,p3,p4,hf'.nd,fun k hk=> ?_⟩;rcases hf'.sub k hk with h9 | h9
         ·have:=hp k h9;omega
         ·omega
theorem own_bl{H:Heap}{k ver:Nat}{b:List UInt8}(h:H k=some (.arr ver 1 (b.map Zd))):Own H (.osl k ver 0 b.length) (bys b) [k]:=
 .osl h osi (by rw[List.take_of_length_le osi];exact RD _ fun x hx=>by obtain⟨y,_,rfl⟩:=List.mem_map.1 hx;trivial)
theorem oa_law13_part(b:List UInt8)(hb:b.length≤1099511627776)(H:Heap)(n:Nat):Zn prog 23 [bys b] H n (OAns H n (bys b)):=
 Zn.mono (KO b hb H n) fun res H1 n1 ⟨hr,hH,hn⟩=>by
   subst hr hH hn;exact OAns.one (own_bl (Rm _ _ _)) ⟨om,om⟩ (fun k hk=>Rk _ _ om) om
theorem Ql{b:List UInt8}(hb:b.length≤1099511627776){a:AV}{H:Heap}(h:Frz H 0 a (bys b))(n:Nat):Ret prog 23 [a] H n (bys b) H n:=
 OAns.fin (OAns.lend (Jq.none H) (.cons h .nil) (oa_law13_part b hb _ _))
theorem PgF.len{lo hi:Nat}{z:PgE}{H:Heap}{p:PO}(h:PgF lo hi z H p):p.rs.length=z.rows.length:=by
 have:=congrArg List.length h.fam
 rwa [qb,qb]at this
theorem PgF.row{lo hi:Nat}{z:PgE}{H:Heap}{p:PO}(h:PgF lo hi z H p){o:RO}(ho:o∈p.rs):∃x∈z.rows,o.cs.map (·.fam)=x.cells.map (·.fam):=by
 have h1:o.cs.map (·.fam)∈z.rows.map (fun r=>r.cells.map (·.fam)):=h.fam▸List.mem_map.2 ⟨o,ho,rfl⟩;obtain⟨x,hx,e⟩:=List.mem_map.1 h1;exact⟨x,hx,e.symm⟩
theorem PgF.clen{lo hi:Nat}{z:PgE}{H:Heap}{p:PO}(h:PgF lo hi z H p)(hc:∀x∈z.rows,x.cells.length≤1048576):∀o∈p.rs,o.cs.length≤1048576:=fun o ho=>by
 obtain⟨x,hx,e⟩:=h.row ho;have:=congrArg List.length e;rw[qb,qb]at this;rw[this];exact hc x hx
structure C5(p:PO)(m t:AV)(Hf:Heap)(nf i:Nat)(H:Heap)(n:Nat):Prop where
 le:nf≤n
 out:∀k,k<nf→k∉p.rs.map (·.kc)→H k=Hf k
 mrk:∀j,j<i→j<p.rs.length→Mk H (p.rs.getD j default).kc (p.rs.getD j default).vc 4 m t (p.rs.getD j default).cs.length 0
 old:∀j,i≤j→j<p.rs.length→H (p.rs.getD j default).kc=Hf (p.rs.getD j default).kc
theorem nth_ext{els:List AV}:∀{l:List AV},l.length≤els.length→(∀i,i<l.length→nth els i=nth l i)→els.take l.length=l:=fun{l} h1 h2=>by
 apply List.ext_getElem (by rw[qk];omega);intro i a b;have:=h2 i b;simp only[nth,List.getD,List.getElem?_eq_getElem b,List.getElem?_eq_getElem (show i<els.length by omega)]at this;rw[List.getElem_take];simpa using this
theorem take_mapd{α:Type}[Inhabited α]{els:List AV}{l:List α}{f:α→AV}(h1:l.length≤els.length)(h2:∀i,i<l.length→nth els i=f (l.getD i default)):els.take l.length=l.map f:=by
 have h:=nth_ext (els:=els) (l:=l.map f) (by simpa using h1) (fun i hi=>by rw[h2 i (by simpa using hi),Zr f l i (by simpa using hi)])
 rwa [qb]at h
theorem KF{H:Heap}{fs gs:List AV}{ks:List Nat}(h:OwnF H (.agg fs) (.agg gs) ks):Yq H fs gs ks:=by
 cases h with
 | nk h=>exact h.elim
 | agg h=>exact h
theorem Xo{H:Heap}{a b:AV}{l m:List AV}{ks:List Nat}(h:Yq H (a::l) (b::m) ks):∃k1 k2,OwnF H a b k1∧Yq H l m k2:=by
 cases h with
 | cons h1 h2=>exact⟨_,_,h1,h2⟩
def CoW(H:Heap)(o:CO)(c:CelE):Prop:=o.fam=c.fam∧o.ts=c.ts∧BlW H o.q c.qual∧BlW H o.v c.value
theorem int_inj{k:IntKind}{a b:Int}(h:AV.int k a=AV.int k b):a=b:=by cases h;rfl
theorem ownF_cow{H:Heap}{o:CO}{c:CelE}{ks:List Nat}(h:OwnF H o.av (Zj c) ks):CoW H o c:=by
 obtain⟨_,_,h1,h⟩:=Xo (KF h);obtain⟨_,_,h2,h⟩:=Xo h;obtain⟨_,_,h3,h⟩:=Xo h;obtain⟨_,_,h4,h⟩:=Xo h;exact⟨int_inj (OwnF.of_nk h1 trivial).1,int_inj (OwnF.of_nk h3 trivial).1,RX h2,RX h4⟩
theorem Sl{H:Heap}:∀{os:List CO} {cs:List CelE} {ks:List Nat},Yq H (os.map CO.av) (cs.map Zj) ks→os.length=cs.length∧∀j,j<os.length→CoW H (os.getD j default) (cs.getD j default)
 | [],[],_,_=>⟨rfl,fun j hj=>by simp at hj⟩
 | [],_::_,_,h=>by cases h
 | _::_,[],_,h=>by cases h
 | o::os,c::cs,_,.cons h1 h2=>by
   obtain⟨e,h3⟩:=Sl h2;refine⟨by simp[e],fun j hj=> ?_⟩;cases j with
   | zero=>exact ownF_cow h1
   | succ j=>exact h3 j (by simpa using hj)
def RoW(H:Heap)(o:RO)(r:RowE):Prop:=BlW H o.r r.row∧o.cs.length=r.cells.length∧∀j,j<o.cs.length→CoW H (o.cs.getD j default) (r.cells.getD j default)
theorem ownF_row{H:Heap}{o:RO}{r:RowE}{ks:List Nat}(h:OwnF H o.av (Zf r) ks)(hc:∃els,H o.kc=some (.arr o.vc 4 els)∧o.cs.length≤els.length∧∀i,i<o.cs.length→nth els i=(o.cs.getD i default).av):RoW H o r:=by
 obtain⟨els,c1,c2,c3⟩:=hc;obtain⟨_,k2,h1,h⟩:=Xo (KF h);obtain⟨k3,_,h2,h⟩:=Xo h;cases h2 with
 | @osl _ _ _ _ els' _ _ g1 g2 g3=>
   rw[c1]at g1;cases g1;rw[take_mapd c2 c3]at g3;exact⟨RX h1,Sl g3⟩
theorem Sg{H:Heap}:∀{os:List RO} {rs:List RowE} {ks:List Nat},Yq H (os.map RO.av) (rs.map Zf) ks→(∀o∈os,∃els,H o.kc=some (.arr o.vc 4 els)∧o.cs.length≤els.length∧∀i,i<o.cs.length→nth els i=(o.cs.getD i default).av)→os.length=rs.length∧∀j,j<os.length→RoW H (os.getD j default) (rs.getD j default)
 | [],[],_,_,_=>⟨rfl,fun j hj=>by simp at hj⟩
 | [],_::_,_,h,_=>by cases h
 | _::_,[],_,h,_=>by cases h
 | o::os,c::cs,_,.cons h1 h2,hc=>by
   obtain⟨e,h3⟩:=Sg h2 fun x hx=>hc x (by simp[hx]);refine⟨by simp[e],fun j hj=> ?_⟩;cases j with
   | zero=>exact ownF_row h1 (hc o osi)
   | succ j=>exact h3 j (by simpa using hj)
theorem PgF.cont{lo hi:Nat}{z:PgE}{H:Heap}{p:PO}(h:PgF lo hi z H p):BlW H p.t z.token∧∀i,i<p.rs.length→RoW H (p.rs.getD i default) (z.rows.getD i default):=by
 obtain⟨els,c1,c2,c3⟩:=h.at_.rows;obtain⟨_,_,h1,h2⟩:=Xo (KF h.own);obtain⟨_,_,h2,_⟩:=Xo h2;cases h1 with
 | @osl _ _ _ _ els' _ _ g1 g2 g3=>
   rw[c1]at g1;cases g1;rw[take_mapd c2 c3]at g3;exact⟨RX h2,(Sg g3 h.at_.cells).2⟩
theorem PgF.rowsF{lo hi:Nat}{z:PgE}{H:Heap}{p:PO}(h:PgF lo hi z H p):Frz H 0 (.osl p.kR p.vR 0 p.rs.length) (.sl 2 (z.rows.map Zf)):=by
 obtain⟨_,_,h1,_⟩:=Xo (KF h.own);exact h1.own.frz fun _ _=>Nat.zero_le _
def wsC(c:CelE):List (List UInt8):=[c.qual,c.value]
def wsR(r:RowE):List (List UInt8):=r.row::r.cells.flatMap wsC
def wsP(z:PgE):List (List UInt8):=z.token::z.rows.flatMap wsR
def PO.rl(p:PO):BL:=⟨p.kR,p.vR,p.rs.length⟩
def RO.cl(o:RO):BL:=⟨o.kc,o.vc,o.cs.length⟩
theorem BkS.frame{H H':Heap}{kb kL vL kW vW:Nat}{bs:List BL}{ws:List (List UInt8)}(h:BkS H kb kL vL kW vW bs ws)(h1:H' kb=H kb)(h2:H' kL=H kL)(h3:H' kW=H kW):BkS H' kb kL vL kW vW bs ws:=⟨h1.trans h.ob,h2.trans h.l,h3.trans h.w,h.len⟩
theorem PgS.frame{H H':Heap}{kp kR vR kC vC kW vW:Nat}{rs cs:List BL}{wss:List (List RowE)}(h:PgS H kp kR vR kC vC kW vW rs cs wss)(h1:H' kp=H kp)(h2:H' kR=H kR)(h3:H' kC=H kC)(h4:H' kW=H kW):PgS H' kp kR vR kC vC kW vW rs cs wss:=⟨h1.trans h.ob,h2.trans h.r,h3.trans h.c,h4.trans h.w,h.len⟩
theorem Pd{α β:Type}[Inhabited α](f:α→β)(l:List α){i:Nat}(h:i<l.length):(l.take (i+1)).map f=(l.take i).map f++[f (l.getD i default)]:=by
 rw[List.take_succ_eq_append_getElem h,qj];simp[List.getD,List.getElem?_eq_getElem h]
def Lay(kb kL kW kp kR kC kV l0 kE lo:Nat)(m:Nat):Prop:=kb=m+3∧kL=m+6∧kW=m+7∧kp=m+4∧kR=m+8∧kC=m+9∧kV=m+10∧l0=m+3∧kE=m+5∧lo=m+11
theorem NXg0.eqs{P Q:Prop}(g:Imp P Q:=by(try simp only[go_sem,seval,hszo,hmoo,hago,hsz,hmo,hst,hag,f1,f2,f3,f4,f5,f6,b1,b2,b3,b4,b5,b6,b7,o1,o2,o3,o4,e1,e2,hnth,g1,g2,g3,g4,g5,g6,qg,qb,qd]);exact Imp.rf):Imp P Q:=g
theorem NXg0.sd{P:Prop}(g:P:=by first | exact⟨rfl,fun y hy=>by rw[List.mem_singleton.1 hy];exact⟨rfl,rfl⟩⟩ | exact⟨by(simp;first | done | fail),.inr trivial,om,om⟩ | fail):P:=g
set_option maxHeartbeats 6400000 in
open NXg0 NZ in
theorem x_law13_Keep(kb kL vL kW vW kp kR vR kC vC kV vV l0 kE lo hi m0 : Nat)(hY : Lay kb kL kW kp kR kC kV l0 kE lo m0)(bs : List BL)(ws : List (List UInt8))(rs cs : List BL)(wss : List (List RowE))(H : Heap)(n : Nat)(hB : BkS H kb kL vL kW vW bs ws)(hP : PgS H kp kR vR kC vC kV vV rs cs wss)
   (p:PO) (z:PgE) (hp:PgF lo hi z H p) (hhi:hi≤n) (hbl:bs.length≤100000000) (hrl:rs.length≤1000000) (hcl:cs.length≤1000000) (hzl:z.rows.length≤4) (hzt:z.token.length≤1099511627776)
   (hzb:∀r∈z.rows,r.row.length≤1099511627776∧r.cells.length≤1048576∧∀c∈r.cells,c.qual.length≤1099511627776∧c.value.length≤1099511627776):
   Zn prog 22 [.loc kp 0 0 0 [],.loc kb 0 0 0 [],p.av] H n fun res H' n'=>res= .val (.tup [])∧n≤n'∧(∃vL vW,BkS H' kb kL vL kW vW (bs++p.bls) (ws++wsP z))∧(∃vR vC vV,PgS H' kp kR vR kC vC kV vV (rs++[p.rl]) (cs++p.rs.map RO.cl) (wss++[z.rows]))
     ∧∀k,k<n→(lo≤k∨k<l0∨k=kE)→H' k=H k:=by
 obtain⟨l1,l2,l3,l4,l5,l6,l7,l8,l9,la⟩:=hY;obtain⟨c0,cR⟩:=hp.cont;obtain⟨elsR,hR1,hR2,hR3⟩:=hp.at_.rows;have hkl:∀k∈p.ks,lo≤k∧k<n:=fun k hk=>by have:=hp.keys k hk;omega
 have hkt:=hkl p.t.k (PO.mem_ks.2 (.inr (.inr (by simp[PO.bls]))));have hkR:=hkl p.kR (PO.mem_ks.2 (.inl rfl));have hll:=hp.len;have POav:∀p:PO,p.av= .agg [.osl p.kR p.vR 0 p.rs.length,.osl p.t.k p.t.v 0 p.t.l,.bool p.done]:=fun _=>rfl;have hszo:∀p:PO,p.av.sz=3:=fun _=>rfl;have hmoo:∀p:PO,p.av.memOK=true:=fun _=>rfl;have hago:∀p:PO,p.av.isAgg=true:=fun _=>rfl;have hsz:∀s:BL,s.av.sz=1:=fun _=>rfl;have hmo:∀s:BL,s.av.memOK=true:=fun _=>rfl;have hst:∀s:BL,strip true s.av=s.av:=fun _=>rfl;have hag:∀s:BL,s.av.isAgg=false:=fun _=>rfl;have BLav:∀s:BL,s.av= .osl s.k s.v 0 s.l:=fun _=>rfl;have f1:(kp=kR)=False:=oz;have f2:(kp=kC)=False:=oz;have f3:(kp=kV)=False:=oz;have f4:(kR=kp)=False:=oz;have f5:(kC=kp)=False:=oz;have f6:(kV=kp)=False:=oz;have b1:=f1;have b2:=f1;have b3:=f1;have b4:=f1;have b5:=f1;have b6:=f1;have b7:=f1;have o1:=f1;have o2:=f1;have o3:=f1;have o4:=f1;have e1:=f1;have e2:=f1;have hnth:=f1;have g1:=f1;have g2:=f1;have g3:=f1;have g4:=f1;have g5:=f1;have g6:=f1;refine fw func22 ntmps22 results22 ?_;refine rg zs [0,1,5] ?_;refine rg zs [0,1,5,6] ?_;refine ZG (fun H' n'=>H' n=some (.arr 0 3 [p.av])∧(∀k,k<n→H' k=H k)∧n'=n+1) ⟨oh,fun k hk=>oh,rfl⟩ fun H9 n9 ⟨b1,hl9,hn9⟩=> ?_;refine Zg zs [0,1,5,6] fun K V=> ?_
 try simp only[go_sem,seval,hszo,hmoo,hago,hsz,hmo,hst,hag,f1,f2,f3,f4,f5,f6,b1,b2,b3,b4,b5,b6,b7,o1,o2,o3,o4,e1,e2,hnth,g1,g2,g3,g4,g5,g6,qg,qb,qd,POav]
 repeat refine peel ?_
 refine cK func27 ((X8 kb kL vL kW vW bs ws p.t z.token _ _ (hB.frame (hl9 _ om) (hl9 _ om) (hl9 _ om)) om (c0.frame (hl9 _ hkt.2)) hzt ⟨om,om,om⟩ ⟨om,om,om,om⟩)) ?_ ?_
 ·intro p H' n' hc;cases hc.1
 intro rr H1 n1 hc;obtain⟨hr,hn1,⟨vL,vW,hB⟩,hlo1⟩:=hc;cases hr
 try simp only[go_sem,seval,hszo,hmoo,hago,hsz,hmo,hst,hag,f1,f2,f3,f4,f5,f6,b1,b2,b3,b4,b5,b6,b7,o1,o2,o3,o4,e1,e2,hnth,g1,g2,g3,g4,g5,g6,qg,qb,qd,POav]
 repeat refine peel ?_
 apply V;clear V K;refine Za fun K1 hK1=> ?_;refine rg zs [0,1,5,6,7] ?_;refine Zq ?_;refine ZN 6 2 rfl ?_;refine Yl [0,1,5,6,7] ?_;refine ns ?_;obtain⟨k6,hk6⟩:∃x,x=n1:=⟨_,rfl⟩;rw[←hk6];have b1:=(hlo1 n om om om om).trans b1;have hPx:PgS H1 kp kR vR kC vC kV vV rs (cs++(p.rs.take 0).map RO.cl) wss:=by rw[List.take_zero,List.map_nil,List.append_nil];exact hP.frame ((hlo1 _ om om om om).trans (hl9 _ om)) ((hlo1 _ om om om om).trans (hl9 _ om)) ((hlo1 _ om om om om).trans (hl9 _ om)) ((hlo1 _ om om om om).trans (hl9 _ om))
 refine Zk (fun T' H' n'=>∃(i ver vL vW vC:Nat),i≤p.rs.length∧T'=tl [(0,.loc kp 0 0 0 []),(1,.loc kb 0 0 0 []),(5,.loc n 0 0 0 []),(6,.osl k6 ver 0 i),(7,.int .i64 i)]∧H' n=some (.arr 0 3 [p.av])∧H' k6=some (.arr ver 2 ((z.rows.take i).map Zf))∧BkS H' kb kL vL kW vW (bs++p.t::(p.rs.take i).flatMap blsR) (ws++z.token::(z.rows.take i).flatMap wsR)∧PgS H' kp kR vR kC vC kV vV rs (cs++(p.rs.take i).map RO.cl) wss∧(∀k,k<n→(lo≤k∨k<l0∨k=kE)→H' k=H k)∧k6<n') (fun T' _ _=>p.rs.length-iv (T' 7)) ?_ ?_
 ·exact⟨0,0,vL,vW,vC,Nat.zero_le _,rfl,ohx b1,ohd,hB.frame oh oh oh,hPx.frame oh oh oh oh,fun k h1 h2=>ohx ((hlo1 k om om om om).trans (hl9 k h1)),om⟩
 rintro T1 H1 n1 ⟨i,ver,vL,vW,vC,hi,rfl,b1,b2,hB,hP,hlow,hkn⟩;have b3:H1 p.kR=some (.arr p.vR 2 elsR):=(hlow _ hkR.2 (.inl hkR.1)).trans hR1;refine Za fun K2 hK2=> ?_;refine Zg zs [0,1,5,6,7,19] fun K V=> ?_
 try simp only[go_sem,seval,hszo,hmoo,hago,hsz,hmo,hst,hag,f1,f2,f3,f4,f5,f6,b1,b2,b3,b4,b5,b6,b7,o1,o2,o3,o4,e1,e2,hnth,g1,g2,g3,g4,g5,g6,qg,qb,qd,POav]
 repeat refine peel ?_
 apply V;clear V K;refine Zb ?_ ?_<;>intro hb
 ·have hlt:i<p.rs.length:=ott;have hnth:nth elsR i= .agg [.osl (p.rs.getD i default).r.k (p.rs.getD i default).r.v 0 (p.rs.getD i default).r.l,.osl (p.rs.getD i default).kc (p.rs.getD i default).vc 0 (p.rs.getD i default).cs.length]:=hR3 i hlt;obtain⟨hoW,hoL,hoC⟩:=cR i hlt;have hom:=memR hlt;obtain⟨X,hX1,hX2,hX3⟩:=hp.at_.cells _ hom;have hzx:=hzb _ (Yj z.rows (show i<z.rows.length by omega));have hs1:=JI blsR p.rs hlt;have hs2:=JI wsR z.rows (show i<z.rows.length by omega);have hs3:=Pd RO.cl p.rs hlt;have hs4:=Pd Zf z.rows (show i<z.rows.length by omega);have hor:=hkl (p.rs.getD i default).r.k (PO.mem_ks.2 (.inr (.inr (List.mem_map.2 ⟨_,List.mem_cons_of_mem _ (List.mem_flatMap.2 ⟨_,hom,List.mem_cons_self ..⟩),rfl⟩))));have hoc:=hkl (p.rs.getD i default).kc (PO.mem_ks.2 (.inr (.inl (List.mem_map.2 ⟨_,hom,rfl⟩))));have hcq:∀c∈(p.rs.getD i default).cs,(lo≤c.q.k∧c.q.k<n)∧(lo≤c.v.k∧c.v.k<n):=fun c hc=>⟨hkl _ (PO.mem_ks.2 (.inr (.inr (List.mem_map.2 ⟨c.q,List.mem_cons_of_mem _ (List.mem_flatMap.2 ⟨_,hom,List.mem_cons_of_mem _ (List.mem_flatMap.2 ⟨c,hc,by simp[blsC]⟩)⟩),rfl⟩)))),hkl _ (PO.mem_ks.2 (.inr (.inr (List.mem_map.2 ⟨c.v,List.mem_cons_of_mem _ (List.mem_flatMap.2 ⟨_,hom,List.mem_cons_of_mem _ (List.mem_flatMap.2 ⟨c,hc,by simp[blsC]⟩)⟩),rfl⟩))))⟩;have hbl9:(bs++p.t::(p.rs.take i).flatMap blsR).length≤200000000:=by
    have h9:=blsR_len (p.rs.take i) (fun r hr=>hp.clen (fun x hx=>(hzb x hx).2.1) r (List.mem_of_mem_take hr));rw[qk]at h9;rw[qe,qi];omega
  generalize p.rs.getD i default=o at*;generalize z.rows.getD i default=x at*;obtain⟨B0,hB0⟩:∃b,b=bs++p.t::(p.rs.take i).flatMap blsR:=⟨_,rfl⟩;obtain⟨W0,hW0⟩:∃b,b=ws++z.token::(z.rows.take i).flatMap wsR:=⟨_,rfl⟩;obtain⟨C0,hC0⟩:∃b,b=cs++(p.rs.take i).map RO.cl:=⟨_,rfl⟩;rw[←hB0,←hW0]at hB;rw[←hC0]at hP;rw[←hB0]at hbl9;have hC9:C0.length≤1000004:=by rw[hC0,qe,qb,qk];omega
  have e1:IntKind.i64.wrap ((i:Int)+1)=((i+1:Nat):Int):=w1 om;refine ak ?_;apply hK2;refine bk fun K3 hK3=> ?_;refine Zg zs [0,1,5,6,7] fun K V=> ?_
  try simp only[go_sem,seval,hszo,hmoo,hago,hsz,hmo,hst,hag,f1,f2,f3,f4,f5,f6,b1,b2,b3,b4,b5,b6,b7,o1,o2,o3,o4,e1,e2,hnth,g1,g2,g3,g4,g5,g6,qg,qb,qd,POav]
  repeat refine peel ?_
  refine cK func27 ((X8 kb kL vL kW vW B0 W0 o.r x.row _ _ hB om (hoW.frame (hlow _ hor.2 (.inl hor.1))) hzx.1 ⟨om,om,om⟩ ⟨om,om,om,om⟩)) ?_ ?_
  ·intro p H' n' hc;cases hc.1
  intro rr H2 n2 hc;obtain⟨hr,hn2,⟨vL,vW,hB⟩,hlo2⟩:=hc;cases hr;have hl2:∀k,(lo≤k∨k<l0∨k=kE)→k<n1→H2 k=H1 k:=fun k h1 h2=>hlo2 k h2 om om om;have b1:=(hl2 n om om).trans b1;have b2:=(hl2 k6 om hkn).trans b2;have b3:=(hl2 p.kR om om).trans b3;have hP:=hP.frame (hlo2 kp om om om om) (hlo2 kR om om om om) (hlo2 kC om om om om) (hlo2 kV om om om om);have hlow:∀k,k<n→(lo≤k∨k<l0∨k=kE)→H2 k=H k:=fun k h1 h2=>(hl2 k h2 om).trans (hlow k h1 h2)
  try simp only[go_sem,seval,hszo,hmoo,hago,hsz,hmo,hst,hag,f1,f2,f3,f4,f5,f6,b1,b2,b3,b4,b5,b6,b7,o1,o2,o3,o4,e1,e2,hnth,g1,g2,g3,g4,g5,g6,qg,qb,qd,POav]
  repeat refine peel ?_
  apply V;clear V K;refine Zg zs [0,1,5,6,7,8] fun K V=> ?_
  try simp only[go_sem,seval,hszo,hmoo,hago,hsz,hmo,hst,hag,f1,f2,f3,f4,f5,f6,b1,b2,b3,b4,b5,b6,b7,o1,o2,o3,o4,e1,e2,hnth,g1,g2,g3,g4,g5,g6,qg,qb,qd,POav]
  repeat refine peel ?_
  refine Zu func23 rfl rfl rfl ((Ql hzx.1 (hoW.frame (hlow _ hor.2 (.inl hor.1))).frz _)) ?_
  try simp only[go_sem,seval,hszo,hmoo,hago,hsz,hmo,hst,hag,f1,f2,f3,f4,f5,f6,b1,b2,b3,b4,b5,b6,b7,o1,o2,o3,o4,e1,e2,hnth,g1,g2,g3,g4,g5,g6,qg,qb,qd,POav]
  repeat refine peel ?_
  apply V;clear V K;refine Za fun K4 hK4=> ?_;refine ZO n2 4 (ver:=0) (e:=2) (els:=[.agg [bys x.row,.nilsl]]) (els':=[.agg [bys x.row,.osl (n2+1) 0 0 0]]) ohd ⟨Adp.agg ⟨.refl _ _,Adp.nilsl _,trivial⟩,trivial⟩ ?_;obtain⟨kx,hkx⟩:∃y,y=n2:=⟨_,rfl⟩;rw[←hkx];refine ZG (fun H' n'=>H' kx=some (.arr 0 2 [.agg [bys x.row,.osl (kx+1) 0 0 0]])∧H' (kx+1)=some (.arr 0 4 [])∧(∀k,k<kx→H' k=H2 k)∧n'=kx+2) ⟨ohd,ohd,fun k hk=>oh,rfl⟩ fun Hx nx ⟨b5,b6,hlx,hnx⟩=> ?_;have b1:=(hlx n om).trans b1;have b2:=(hlx k6 om).trans b2;have b3:=(hlx p.kR om).trans b3;have hB:=hB.frame (H':=Hx) (hlx _ om) (hlx _ om) (hlx _ om);have hP:=hP.frame (H':=Hx) (hlx _ om) (hlx _ om) (hlx _ om) (hlx _ om);have hlow:∀k,k<n→(lo≤k∨k<l0∨k=kE)→Hx k=H k:=fun k h1 h2=>(hlx k om).trans (hlow k h1 h2);obtain⟨B1,hB1⟩:∃b,b=B0++[o.r]:=⟨_,rfl⟩;obtain⟨W1,hW1⟩:∃b,b=W0++[x.row]:=⟨_,rfl⟩;rw[←hB1,←hW1]at hB;have hB1l:B1.length≤200000001:=by rw[hB1,qe];simp;omega
  refine rg zs [0,1,5,6,7,8,9] ?_;refine Zq ?_;refine Zk (fun T' H' n'=>∃(j vc vL vW:Nat),j≤o.cs.length∧T'=tl [(0,.loc kp 0 0 0 []),(1,.loc kb 0 0 0 []),(5,.loc n 0 0 0 []),(6,.osl k6 ver 0 i),(7,.int .i64 i),(8,.loc kx 0 0 0 []),(9,.int .i64 j)]∧H' kx=some (.arr 0 2 [.agg [bys x.row,.osl (kx+1) vc 0 j]])∧H' (kx+1)=some (.arr vc 4 ((x.cells.take j).map Zj))∧BkS H' kb kL vL kW vW (B1++(o.cs.take j).flatMap blsC) (W1++(x.cells.take j).flatMap wsC)∧(∀k,k<kx→k≠kb→k≠kL→k≠kW→H' k=Hx k)∧kx+2≤n') (fun T' _ _=>o.cs.length-iv (T' 9)) ?_ ?_
  ·exact⟨0,0,vL,vW,Nat.zero_le _,rfl,b5,by rw[b6];rfl,by simpa using hB,fun _ _ _ _ _=>rfl,om⟩
  rintro T1 H1 n1 ⟨j,vc,vL,vW,hj,rfl,b5,b6,hB,hfx,hn1⟩;have hfl:∀k,(lo≤k∨k<l0∨k=kE)→k<kx→H1 k=Hx k:=fun k h1 h2=>hfx k h2 om om om;have b1:=(hfl n om om).trans b1;have b3:=(hfl p.kR om om).trans b3;have b4:H1 o.kc=some (.arr o.vc 4 X):=(hfl o.kc (.inl hoc.1) om).trans ((hlow _ hoc.2 (.inl hoc.1)).trans hX1);refine Za fun K5 hK5=> ?_;refine Zg zs [0,1,5,6,7,8,9,46] fun K V=> ?_
  try simp only[go_sem,seval,hszo,hmoo,hago,hsz,hmo,hst,hag,f1,f2,f3,f4,f5,f6,b1,b2,b3,b4,b5,b6,b7,o1,o2,o3,o4,e1,e2,hnth,g1,g2,g3,g4,g5,g6,qg,qb,qd,POav]
  repeat refine peel ?_
  apply V;clear V K;refine Zb ?_ ?_<;>intro hb
  ·have hlj:j<o.cs.length:=ott;have e1:IntKind.i64.wrap ((j:Int)+1)=((j+1:Nat):Int):=w1 om;have e2:nth X j= .agg [.int .i64 (o.cs.getD j default).fam,(o.cs.getD j default).q.av,.int .i64 (o.cs.getD j default).ts,(o.cs.getD j default).v.av]:=hX3 j hlj;obtain⟨h1f,h1t,h1q,h1v⟩:=hoC j hlj;have hq1:=hcq _ (Yj o.cs hlj);have hzc:=hzx.2.2 _ (Yj x.cells (show j<x.cells.length by omega));have hs5:=JI blsC o.cs hlj;have hs6:=JI wsC x.cells (show j<x.cells.length by omega);have hs7:=Pd Zj x.cells (show j<x.cells.length by omega);have hbl8:((o.cs.take j).flatMap blsC).length≤2097152:=by rw[blsC_len,qk];omega
   generalize o.cs.getD j default=c at*;generalize x.cells.getD j default=d at*;obtain⟨ky,hky⟩:∃y,y=n1:=⟨_,rfl⟩;refine ak ?_;apply hK5;refine bk fun K6 hK6=> ?_;refine Zg zs [0,1,5,6,7,8,9,10] fun K V=> ?_
   try simp only[go_sem,seval,hszo,hmoo,hago,hsz,hmo,hst,hag,f1,f2,f3,f4,f5,f6,b1,b2,b3,b4,b5,b6,b7,o1,o2,o3,o4,e1,e2,hnth,g1,g2,g3,g4,g5,g6,qg,qb,qd,POav]
   repeat refine peel ?_
   apply V;clear V K;refine ZG (fun H' n'=>H' ky=some (.arr 0 4 [.agg [.int .i64 c.fam,c.q.av,.int .i64 c.ts,c.v.av]])∧(∀k,k<ky→H' k=H1 k)∧n'=ky+1) ⟨by rw[hky];first | (exact oh) | (refine ohx ?_;rfl),fun k hk=>by rw[hky]at hk;(try simp only[Rl]);(repeat first | rw[if_pos rfl] | rw[if_pos trivial] | rw[if_neg om]),om⟩ fun H3 n3 ⟨b7,hl3,hn3⟩=> ?_;rw[←hky];refine Zg zs [0,1,5,6,7,8,9,10] fun K V=> ?_
   try simp only[go_sem,seval,hszo,hmoo,hago,hsz,hmo,hst,hag,f1,f2,f3,f4,f5,f6,b1,b2,b3,b4,b5,b6,b7,o1,o2,o3,o4,e1,e2,hnth,g1,g2,g3,g4,g5,g6,qg,qb,qd,BLav]
   repeat refine peel ?_
   refine cK func27 ((X8 kb kL vL kW vW _ _ c.q d.qual _ _ (hB.frame (hl3 _ om) (hl3 _ om) (hl3 _ om)) (by rw[qe];omega) (h1q.frame ((hl3 _ om).trans ((hfl _ (.inl hq1.1.1) om).trans (hlow _ hq1.1.2 (.inl hq1.1.1))))) hzc.1 ⟨om,om,om⟩ ⟨om,om,om,om⟩)) ?_ ?_
   ·intro p H' n' hc;cases hc.1
   intro rr H4 n4 hc;obtain⟨hr,hn4,⟨vL,vW,hB⟩,hlo4⟩:=hc;cases hr;have hl4:∀k,(lo≤k∨k<l0∨k=kE)→k<n3→H4 k=H3 k:=fun k h1 h2=>hlo4 k h2 om om om;have b7:=(hl4 ky om om).trans b7
   try simp only[go_sem,seval,hszo,hmoo,hago,hsz,hmo,hst,hag,f1,f2,f3,f4,f5,f6,b1,b2,b3,b4,b5,b6,b7,o1,o2,o3,o4,e1,e2,hnth,g1,g2,g3,g4,g5,g6,qg,qb,qd,BLav]
   repeat refine peel ?_
   apply V;clear V K;refine Zg zs [0,1,5,6,7,8,9,10] fun K V=> ?_
   try simp only[go_sem,seval,hszo,hmoo,hago,hsz,hmo,hst,hag,f1,f2,f3,f4,f5,f6,b1,b2,b3,b4,b5,b6,b7,o1,o2,o3,o4,e1,e2,hnth,g1,g2,g3,g4,g5,g6,qg,qb,qd,BLav]
   repeat refine peel ?_
   refine cK func27 ((X8 kb kL vL kW vW _ _ c.v d.value _ _ hB (by rw[qe,qe,qh];omega) (h1v.frame ((hl4 _ (.inl hq1.2.1) om).trans ((hl3 _ om).trans ((hfl _ (.inl hq1.2.1) om).trans (hlow _ hq1.2.2 (.inl hq1.2.1)))))) hzc.2 ⟨om,om,om⟩ ⟨om,om,om,om⟩)) ?_ ?_
   ·intro p H' n' hc;cases hc.1
   intro rr H5 n5 hc;obtain⟨hr,hn5,⟨vL,vW,hB⟩,hlo5⟩:=hc;cases hr;have hl5:∀k,(lo≤k∨k<l0∨k=kE)→k<n4→H5 k=H4 k:=fun k h1 h2=>hlo5 k h2 om om om;have b7:=(hl5 ky om om).trans b7
   try simp only[go_sem,seval,hszo,hmoo,hago,hsz,hmo,hst,hag,f1,f2,f3,f4,f5,f6,b1,b2,b3,b4,b5,b6,b7,o1,o2,o3,o4,e1,e2,hnth,g1,g2,g3,g4,g5,g6,qg,qb,qd,BLav]
   repeat refine peel ?_
   apply V;clear V K;have hl9:∀k,(lo≤k∨k<l0∨k=kE)→k<ky→H5 k=H1 k:=fun k h1 h2=>(hl5 k h1 om).trans ((hl4 k h1 om).trans (hl3 k h2));have b5:=(hl9 kx om om).trans b5;have b6:=(hl9 (kx+1) om om).trans b6;have hqF:=(h1q.frame ((hl9 _ (.inl hq1.1.1) om).trans ((hfl _ (.inl hq1.1.1) om).trans (hlow _ hq1.1.2 (.inl hq1.1.1))))).frz;have hvF:=(h1v.frame ((hl9 _ (.inl hq1.2.1) om).trans ((hfl _ (.inl hq1.2.1) om).trans (hlow _ hq1.2.2 (.inl hq1.2.1))))).frz;refine U4 rfl zs [0,1,5,6,7,8,9] [.q,.q,.q,.q,.q,.q,.c,.q,.q,.q,.q,.c,.q,.q,.w [],.q,.w []] [0,1,2,3,4,5,6,7,8,9,10,11,12,13,14,15,16] [0,1,2,3,4,5,6,7,8,9,10,11,12,13,14,15,16] (by kernel_rfl) (fun _ _ _ _ _ h=>h) fun K V=> ?_
   try simp only[go_sem,seval,hszo,hmoo,hago,hsz,hmo,hst,hag,f1,f2,f3,f4,f5,f6,b1,b2,b3,b4,b5,b6,b7,o1,o2,o3,o4,e1,e2,hnth,g1,g2,g3,g4,g5,g6,qg,qb,qd,BLav]
   repeat refine peel ?_
   refine ZQ func23 rfl rfl rfl (fun _ n=>(Ql hzc.1 hqF _)) ?_
   try simp only[go_sem,seval,hszo,hmoo,hago,hsz,hmo,hst,hag,f1,f2,f3,f4,f5,f6,b1,b2,b3,b4,b5,b6,b7,o1,o2,o3,o4,e1,e2,hnth,g1,g2,g3,g4,g5,g6,qg,qb,qd,BLav]
   repeat refine peel ?_
   refine ZQ func23 rfl rfl rfl (fun _ n=>(Ql hzc.2 hvF _)) ?_
   try simp only[go_sem,seval,hszo,hmoo,hago,hsz,hmo,hst,hag,f1,f2,f3,f4,f5,f6,b1,b2,b3,b4,b5,b6,b7,o1,o2,o3,o4,e1,e2,hnth,g1,g2,g3,g4,g5,g6,qg,qb,qd,BLav]
   repeat (first | (refine And.intro ?_ ?_;· first | exact⟨rfl,fun y hy=>by rw[List.mem_singleton.1 hy];exact⟨rfl,rfl⟩⟩ | exact⟨oz,.inr trivial,om,om⟩) | refine peel ?_)
   apply V;clear V K;refine ns ?_;apply hK6;refine rg1 zs [0,1,5,6,7,8,9] ?_;refine⟨⟨j+1,vc+1,vL,vW,om,rfl,rfl,by rw[hs7,List.take_of_length_le oz,h1f,h1t];rfl,?_,fun k h1 h2 h3 h4=> ?_,om⟩,by show o.cs.length-(j+1)<o.cs.length-j;omega⟩
   ·rw[hs5,hs6];have h9:=hB.frame (H':=Heap.put (H5.put (kx+1) (some (.arr (vc+1) 4 (List.take j (List.map Zj (List.take j x.cells))++[.agg [.int .i64 c.fam,.sl 1 (List.map Zd d.qual),.int .i64 c.ts,.sl 1 (List.map Zd d.value)]])))) kx (some (.arr 0 2 [.agg [.sl 1 (List.map Zd x.row),.osl (kx+1) (vc+1) 0 (j+1)]]))) (by rw[Rk _ _ om,Rk _ _ om]) (by rw[Rk _ _ om,Rk _ _ om]) (by rw[Rk _ _ om,Rk _ _ om]);simpa [blsC,wsC,qf]using h9
   ·rw[if_neg om,if_neg om];exact(hlo5 k om h2 h3 h4).trans ((hlo4 k om h2 h3 h4).trans ((hl3 k om).trans (hfx k h1 h2 h3 h4)))
  have hje:j=x.cells.length:=otf;subst hje;rw[List.take_length]at b6;rw[List.take_length,←hoL,List.take_length]at hB;rw[←hoL]at b5;refine ax ?_;apply hK4;refine Ub (kx+1) kx b6 b5 om (lj':=[Zf x]) ⟨FzV.agg ⟨.refl _,(by have h9:=fz_any (k:=kx+1) (ver:=vc) (e:=4) (x.cells.map Zj);rw[qb,←hoL]at h9;exact h9),trivial⟩,trivial⟩ ?_;refine ZG (fun H' n'=>H' kx=some (.arr 0 2 [Zf x])∧(∀k,k<kx→H' k=H1 k)∧n'=n1) ⟨oh,fun k hk=>oh,rfl⟩ fun H6 n6 ⟨b5,hl6,hn6⟩=> ?_;have hl7:∀k,(lo≤k∨k<l0∨k=kE)→k<kx→H6 k=Hx k:=fun k h1 h2=>(hl6 k h2).trans (hfl k h1 h2);have b1:=(hl6 n om).trans b1;have b2:=(hl7 k6 om om).trans b2;have b3:=(hl6 p.kR om).trans b3;have hB:=hB.frame (H':=H6) (hl6 _ om) (hl6 _ om) (hl6 _ om);have hP:=hP.frame (H':=H6) ((hl6 _ om).trans (hfx _ om om om om)) ((hl6 _ om).trans (hfx _ om om om om)) ((hl6 _ om).trans (hfx _ om om om om)) ((hl6 _ om).trans (hfx _ om om om om));have o1:=hP.ob;have o2:=hP.c;have hxst:strip true (Zf x)=Zf x:=rfl;have hxsz:(Zf x).sz=2:=rfl;have hxmo:(Zf x).memOK=true:=rfl;have hxag:(Zf x).isAgg=true:=rfl;have g1:(n=kC)=False:=oz;have g2:(n=kp)=False:=oz;have g3:(kx=kp)=False:=oz;have g4:(kx=kC)=False:=oz;have g5:(k6=kp)=False:=oz;have g6:(k6=kC)=False:=oz;have hPl:∀l:List BL,(cs++l).length=cs.length+l.length:=fun l=>List.length_append;refine Y0 rfl zs [0,1,5,6,7,8] [.m,.m,.q,.q,.q,.q,.q,.m,.q,.q,.q,.q,.w [],.q,.q,.w []] [0,1,2,3,4,5,6,7,8,9,10,11,12,13,14,15] [0,1,2,3,4,5,6,7,8,9,10,11,12,13,14,15] (by kernel_rfl) (fun _ _ _ _ _ h=>h) fun K V=> ?_
  try simp only[go_sem,seval,hszo,hmoo,hago,hsz,hmo,hst,hag,f1,f2,f3,f4,f5,f6,b1,b2,b3,b4,b5,b6,b7,o1,o2,o3,o4,e1,e2,hnth,g1,g2,g3,g4,g5,g6,qg,qb,qd,POav]
  repeat (first | (refine And.intro ?_ ?_;· first | exact⟨rfl,fun y hy=>by rw[List.mem_singleton.1 hy];exact⟨rfl,rfl⟩⟩ | exact⟨osi,.inr trivial,om,om⟩) | refine peel ?_)
  apply V;clear V K;refine ZP zs [0,1,5,6,7] fun K V=> ?_
  try simp only[go_sem,seval,hszo,hmoo,hago,hsz,hmo,hst,hag,f1,f2,f3,f4,f5,f6,b1,b2,b3,b4,b5,b6,b7,o1,o2,o3,o4,e1,e2,hnth,g1,g2,g3,g4,g5,g6,qg,qb,qd,hxsz,hxmo,hxag,hxst]
  repeat (first | (refine And.intro ?_ ?_;· first | exact⟨rfl,fun y hy=>by rw[List.mem_singleton.1 hy];exact⟨rfl,rfl⟩⟩ | exact⟨oz,.inr trivial,om,om⟩) | refine peel ?_)
  apply V;clear V K;refine ns ?_;apply hK3;refine rg1 zs [0,1,5,6,7] ?_;have hC1:List.take C0.length (List.map BL.av C0)++[AV.osl o.kc o.vc 0 o.cs.length]=(cs++(p.rs.take (i+1)).map RO.cl).map BL.av:=by rw[List.take_of_length_le osi,hs3,←qf,←hC0,qj];rfl
  have hC2:C0.length+1=(cs++(p.rs.take (i+1)).map RO.cl).length:=by rw[hs3,←qf,←hC0,qe,qh]
  have hR1:List.take i (List.map Zf (List.take i z.rows))++[Zf x]=(z.rows.take (i+1)).map Zf:=by rw[hs4,List.take_of_length_le oz]
  refine⟨⟨i+1,ver+1,vL,vW,vC+1,om,rfl,by first | (refine ohx ?_;exact b1) | (exact oh),by rw[←hR1],?_,?_,fun k h1 h2=> ?_,om⟩,by show p.rs.length-(i+1)<p.rs.length-i;omega⟩
  ·have hB9 : BkS H6 kb kL vL kW vW (bs ++ p.t :: (p.rs.take (i + 1)).flatMap blsR) (ws ++ z.token :: (z.rows.take (i + 1)).flatMap wsR) := by
     rw[hs1,hs2];rw[hB1,hW1,hB0,hW0]at hB;simpa [blsR,wsR,qf]using hB
   exact hB9.frame (by rw[Rk _ _ om,Rk _ _ om,Rk _ _ om]) (by rw[Rk _ _ om,Rk _ _ om,Rk _ _ om]) (by rw[Rk _ _ om,Rk _ _ om,Rk _ _ om])
  ·refine⟨?_,?_,?_,?_,hP.len⟩
   ·rw[Rk _ _ om,Rm,hC2]
   ·rw[Rk _ _ om,Rk _ _ om,Rk _ _ om];exact hP.r
   ·rw[Rk _ _ om,Rk _ _ om,Rm,hC1]
   ·rw[Rk _ _ om,Rk _ _ om,Rk _ _ om];exact hP.w
  ·rw[if_neg om,if_neg om,if_neg om];exact(hl7 k h2 om).trans (hlow k h1 h2)
 have hie:i=z.rows.length:=otf;subst hie;rw[List.take_length]at b2 hB;rw[←hll,List.take_length]at hB hP;have o1:=hP.ob;have o2:=hP.r;have o3:=hP.w;have g1:(n=kR)=False:=oz;have g2:(n=kp)=False:=oz;refine ax ?_;apply hK1;refine Y0 rfl zs [0,6] [.m,.m,.q,.q,.q,.q,.q,.q,.w [],.q,.q,.w []] [0,1,2,3,4,5,6,7,8,9,10,11] [0,1,2,3,4,5,6,7,8,9,10,11] (by kernel_rfl) (fun _ _ _ _ _ h=>h) fun K V=> ?_
 try simp only[go_sem,seval,hszo,hmoo,hago,hsz,hmo,hst,hag,f1,f2,f3,f4,f5,f6,b1,b2,b3,b4,b5,b6,b7,o1,o2,o3,o4,e1,e2,hnth,g1,g2,g3,g4,g5,g6,qg,qb,qd,POav]
 repeat (first | (refine And.intro ?_ ?_;· first | exact⟨rfl,fun y hy=>by rw[List.mem_singleton.1 hy];exact⟨rfl,rfl⟩⟩ | exact⟨osi,.inr trivial,om,om⟩) | refine peel ?_)
 apply V;clear V K;refine Ua 6 k6 (ver:=ver) (e:=2) (els:=z.rows.map Zf) (v:= .sl 2 (z.rows.map Zf)) (by first | (refine ohx ?_;exact b2) | (exact oh)) (by have h9:=fz_any (k:=k6) (ver:=ver) (e:=2) (z.rows.map Zf);rw[qb]at h9;exact h9) ?_;simp only[go_sem];have hw9:wss.length≤1000000:=by have:=hP.len;omega
 have g3:(kp=k6)=False:=oz;have g4:(kV=k6)=False:=oz;have g5:(kV=kR)=False:=oz;have g6:(kR=k6)=False:=oz;refine rg1 zs [] ?_;have hbls:p.bls=p.t::p.rs.flatMap blsR:=rfl;have hwsP:wsP z=z.token::z.rows.flatMap wsR:=rfl;refine⟨om,⟨vL,vW,?_⟩,⟨vR+1,vC,vV+1,?_,?_,?_,?_,?_⟩,fun k h1 h2=> ?_⟩
 ·rw[hbls,hwsP];exact hB.frame (by rw[Rk _ _ om,Rk _ _ om,Rk _ _ om,Rk _ _ om,Rk _ _ om]) (by rw[Rk _ _ om,Rk _ _ om,Rk _ _ om,Rk _ _ om,Rk _ _ om]) (by rw[Rk _ _ om,Rk _ _ om,Rk _ _ om,Rk _ _ om,Rk _ _ om])
 ·rw[Rm,qe,qe,qe,qh,qh]
 ·rw[Rk _ _ om,Rk _ _ om,Rk _ _ om,Rk _ _ om,Rm,List.take_of_length_le osi,qj];rfl
 ·rw[Rk _ _ om,Rk _ _ om,Rk _ _ om,Rk _ _ om,Rk _ _ om];exact hP.c
 ·rw[Rk _ _ om,Rm,List.take_of_length_le osi,qj];rfl
 ·rw[qe,qe,hP.len];rfl
 ·first | rw[if_neg om,if_neg om,if_neg om,if_neg om,if_neg om] | rw[Rk _ _ om,Rk _ _ om,Rk _ _ om,Rk _ _ om,Rk _ _ om]
  exact hlow k h1 h2
def Al(H:Heap):List BL→List (List UInt8)→Prop
 | [],[]=>True
 | s::bs,w::ws=>(BlW H s w∧s.l≤1099511627776)∧Al H bs ws
 | _,_=>False
theorem Al.app{H:Heap}:∀{bs cs:List BL} {ws vs:List (List UInt8)},Al H bs ws→Al H cs vs→Al H (bs++cs) (ws++vs)
 | [],_,[],_,_,h=>h
 | _::_,_,_::_,_,h1,h2=>⟨h1.1,Al.app h1.2 h2⟩
 | [],_,_::_,_,h,_=>h.elim
 | _::_,_,[],_,h,_=>h.elim
theorem Al.frame{H H':Heap}:∀{bs:List BL} {ws:List (List UInt8)},Al H bs ws→(∀k∈bs.map (·.k),H' k=H k)→Al H' bs ws
 | [],[],h,_=>h
 | _::_,_::_,h,hk=>⟨⟨h.1.1.frame (hk _ osi),h.1.2⟩,Al.frame h.2 fun k hm=>hk k (by simp at hm ⊢;exact .inr hm)⟩
 | [],_::_,h,_=>h.elim
 | _::_,[],h,_=>h.elim
theorem Al.get{H:Heap}:∀{bs:List BL} {ws:List (List UInt8)},Al H bs ws→∀i,i<bs.length→BlW H (bs.getD i default) (ws.getD i default)∧(bs.getD i default).l≤1099511627776
 | [],_,_,i,hi=>by simp at hi
 | _::_,_::_,h,0,_=>h.1
 | _::_,_::_,h,i+1,hi=>Al.get h.2 i (by simpa using hi)
 | _::_,[],h,_,_=>h.elim
theorem Al.le{H:Heap}:∀{bs:List BL} {ws:List (List UInt8)},Al H bs ws→∀s∈bs,s.l≤1099511627776
 | [],_,_,s,hs=>by cases hs
 | _::_,_::_,h,s,hs=>by rcases List.mem_cons.1 hs with rfl | hs;exact h.1.2;exact Al.le h.2 s hs
 | _::_,[],h,_,_=>h.elim
theorem BlW.len{H:Heap}{s:BL}{w:List UInt8}(h:BlW H s w):s.l=w.length:=by obtain⟨_,_,e⟩:=h;exact e
theorem al_cells{H:Heap}:∀(os:List CO) (cs:List CelE),os.length=cs.length→(∀j,j<os.length→CoW H (os.getD j default) (cs.getD j default))→(∀c∈cs,c.qual.length≤1099511627776∧c.value.length≤1099511627776)→Al H (os.flatMap blsC) (cs.flatMap wsC)
 | [],[],_,_,_=>trivial
 | o::os,c::cs,hl,h,hb=>by
   have h0:CoW H o c:=h 0 osi;have hc:=hb c osi;have ih:=al_cells os cs (by simpa using hl) (fun j hj=>h (j+1) (by simpa using hj)) fun x hx=>hb x (by simp[hx]);exact⟨⟨h0.2.2.1,by rw[h0.2.2.1.len];exact hc.1⟩,⟨h0.2.2.2,by rw[h0.2.2.2.len];exact hc.2⟩,ih⟩
 | [],_::_,hl,_,_=>by simp at hl
 | _::_,[],hl,_,_=>by simp at hl
theorem al_rows{H:Heap}:∀(os:List RO) (rs:List RowE),os.length=rs.length→(∀j,j<os.length→RoW H (os.getD j default) (rs.getD j default))→(∀r∈rs,r.row.length≤1099511627776∧r.cells.length≤1048576∧∀c∈r.cells,c.qual.length≤1099511627776∧c.value.length≤1099511627776)→Al H (os.flatMap blsR) (rs.flatMap wsR)
 | [],[],_,_,_=>trivial
 | o::os,r::rs,hl,h,hb=>by
   have h0:RoW H o r:=h 0 osi;have hc:=hb r osi;have ih:=al_rows os rs (by simpa using hl) (fun j hj=>h (j+1) (by simpa using hj)) fun x hx=>hb x (by simp[hx]);rw[List.flatMap_cons,List.flatMap_cons];exact Al.app ⟨⟨h0.1,by rw[h0.1.len];exact hc.1⟩,al_cells _ _ h0.2.1 h0.2.2 hc.2.2⟩ ih
 | [],_::_,hl,_,_=>by simp at hl
 | _::_,[],hl,_,_=>by simp at hl
def PgB(z:PgE):Prop:=z.rows.length≤4∧z.token.length≤1099511627776∧∀r∈z.rows,r.row.length≤1099511627776∧r.cells.length≤1048576∧∀c∈r.cells,c.qual.length≤1099511627776∧c.value.length≤1099511627776
theorem PgF.al{lo hi:Nat}{z:PgE}{H:Heap}{p:PO}(h:PgF lo hi z H p)(hz:PgB z):Al H p.bls (wsP z):=by
 obtain⟨h1,h2⟩:=h.cont;exact⟨⟨h1,by rw[h1.len];exact hz.2.1⟩,al_rows _ _ h.len h2 hz.2.2⟩
structure LS(lo n:Nat)(H:Heap)(bs:List BL)(ws:List (List UInt8))(rs cs:List BL)(wss:List (List RowE)):Prop where
 b:Al H bs ws
 c:∀s∈cs,Bl0 H 4 s∧s.l≤1048576
 r0:∀s∈rs,Bl0 H 2 s∧s.l≤1048576
 r:∀i,i<rs.length→Frz H 0 (rs.getD i default).av (.sl 2 ((wss.getD i default).map Zf))∧(wss.getD i default).length≤1048576∧∀x∈wss.getD i default,x.cells.length≤1048576
 rk:∀i,i<rs.length→∀H':Heap,(∀k,lo≤k→k<n→H' k=H k)→Frz H' 0 (rs.getD i default).av (.sl 2 ((wss.getD i default).map Zf))
 lr:rs.length=wss.length
 nd:((rs.map (·.k)++cs.map (·.k))++bs.map (·.k)).Nodup
 ks:∀k∈(rs.map (·.k)++cs.map (·.k))++bs.map (·.k),lo≤k∧k<n
 lo:lo≤n
theorem Bl0.frame{H H':Heap}{e:Nat}{s:BL}(h:Bl0 H e s)(hk:H' s.k=H s.k):Bl0 H' e s:=by obtain⟨X,a,b⟩:=h;exact⟨X,hk.trans a,b⟩
section
variable {lo n n':Nat}{H H':Heap}{bs:List BL}{ws:List (List UInt8)}{rs cs:List BL}{wss:List (List RowE)}
theorem LS.init(lo:Nat)(H:Heap):LS lo lo H [] [] [] [] []:=⟨trivial,fun s hs=>by simp at hs,fun s hs=>by simp at hs,fun i hi=>by simp at hi,fun i hi=>by simp at hi,rfl,osi,fun k hk=>by simp at hk,Nat.le_refl _⟩
theorem LS.frame(h:LS lo n H bs ws rs cs wss)(hH:∀k,lo≤k→k<n→H' k=H k)(hn:n≤n'):LS lo n' H' bs ws rs cs wss:=by
 have hk:∀k∈(rs.map (·.k)++cs.map (·.k))++bs.map (·.k),H' k=H k:=fun k hk=>hH k (h.ks k hk).1 (h.ks k hk).2;refine⟨h.b.frame fun k hm=>hk k (List.mem_append_right _ hm),fun s hs=>⟨(h.c s hs).1.frame (hk _ (List.mem_append_left _ (List.mem_append_right _ (List.mem_map.2 ⟨s,hs,rfl⟩)))),(h.c s hs).2⟩,fun s hs=>⟨(h.r0 s hs).1.frame (hk _ (List.mem_append_left _ (List.mem_append_left _ (List.mem_map.2 ⟨s,hs,rfl⟩)))),(h.r0 s hs).2⟩,
   fun i hi=>⟨h.rk i hi H' hH,(h.r i hi).2⟩,fun i hi H2 h2=>h.rk i hi H2 fun k a b=>(h2 k a om).trans (hH k a b),h.lr,h.nd,fun k hm=>by have:=h.ks k hm;omega,Nat.le_trans h.lo hn⟩
theorem LS.bl{s:BL}{w:List UInt8}(h:LS lo n H bs ws rs cs wss)(hH:∀k,lo≤k→k<n→H' k=H k)(hw:BlW H' s w)(hl:w.length≤1099511627776)(hs:n≤s.k∧s.k<n'):LS lo n' H' (bs++[s]) (ws++[w]) rs cs wss:=by
 have h1:=h.frame hH (Nat.le_of_lt (Nat.lt_of_le_of_lt hs.1 hs.2));refine⟨h1.b.app ⟨⟨hw,by rw[hw.len];exact hl⟩,trivial⟩,h1.c,h1.r0,h1.r,h1.rk,h1.lr,?_,fun k hk=> ?_,h1.lo⟩
 ·rw[qj,←qf];refine List.nodup_append.2 ⟨h.nd,osi,fun a ha b hb e=> ?_⟩;simp only[List.map_cons,List.map_nil,List.mem_singleton]at hb;have:=(h.ks a ha).2;omega
 ·rw[qj,←qf]at hk;rcases List.mem_append.1 hk with hk | hk
  ·have:=h.ks k hk;omega
  ·simp only[List.map_cons,List.map_nil,List.mem_singleton]at hk;have:=h.lo;omega
theorem LS.page{p:PO}{z:PgE}(h:LS lo n H bs ws rs cs wss)(hH:∀k,lo≤k→k<n→H' k=H k)(hn:n≤n')(hp:PgF n n' z H' p)(hz:PgB z):LS lo n' H' (bs++p.bls) (ws++wsP z) (rs++[p.rl]) (cs++p.rs.map RO.cl) (wss++[z.rows]):=by
 have h1:=h.frame hH hn;have hpl:=hp.len;have hperm:(((rs++[p.rl]).map (·.k)++(cs++p.rs.map RO.cl).map (·.k))++(bs++p.bls).map (·.k)).Perm (((rs.map (·.k)++cs.map (·.k))++bs.map (·.k))++p.ks):=by
   refine List.Perm.trans ?_ (List.Perm.append_left _ p.perm.symm);refine List.perm_iff_count.2 fun k=> ?_;have e1:(p.rs.map RO.cl).map (·.k)=p.rs.map (·.kc):=by rw[List.map_map];rfl
   have e2:[p.rl].map (·.k)=[p.kR]:=rfl;rw[qj,qj,qj,e1,e2,←List.singleton_append (l:=p.rs.map (·.kc)++p.bls.map (·.k))];simp only[List.count_append];omega
 have hcl:=hp.clen fun x hx=>(hz.2.2 x hx).2.1;have hgr:∀i,i<(rs++[p.rl]).length→(i<rs.length∧(rs++[p.rl]).getD i default=rs.getD i default∧(wss++[z.rows]).getD i default=wss.getD i default)∨(i=rs.length∧(rs++[p.rl]).getD i default=p.rl∧(wss++[z.rows]).getD i default=z.rows):=fun i hi=>by
   rw[qe,qh]at hi;have hlr:=h.lr;by_cases h9:i<rs.length
   ·exact .inl ⟨h9,by simp[List.getD,List.getElem?_append_left h9],by simp[List.getD,List.getElem?_append_left (show i<wss.length by omega)]⟩
   ·obtain rfl:i=rs.length:=om;exact .inr ⟨rfl,by simp[List.getD],by rw[hlr];simp[List.getD]⟩
 refine⟨h1.b.app (hp.al hz),fun s hs=> ?_,fun s hs=> ?_,fun i hi=> ?_,fun i hi H2 h2=> ?_,by rw[qe,qe,h.lr];rfl,?_,fun k hk=> ?_,h1.lo⟩
 ·rcases List.mem_append.1 hs with hs | hs
  ·exact h1.c s hs
  ·obtain⟨o,ho,rfl⟩:=List.mem_map.1 hs;obtain⟨X,a,b,c⟩:=hp.at_.cells o ho;exact⟨⟨X,a,b,fun j hj=>by rw[c j hj];rfl⟩,hcl o ho⟩
 ·rcases List.mem_append.1 hs with hs | hs
  ·exact h1.r0 s hs
  ·rw[List.mem_singleton.1 hs];obtain⟨X,a,b,c⟩:=hp.at_.rows;exact⟨⟨X,a,b,fun j hj=>by rw[c j hj];rfl⟩,by show p.rs.length≤_;have:=hz.1;omega⟩
 ·rcases hgr i hi with⟨a,b,c⟩ | ⟨a,b,c⟩
  ·rw[b,c];exact h1.r i a
  ·rw[b,c];exact⟨hp.rowsF,by have:=hz.1;omega,fun x hx=>(hz.2.2 x hx).2.1⟩
 ·rcases hgr i hi with⟨a,b,c⟩ | ⟨a,b,c⟩
  ·rw[b,c];exact h1.rk i a H2 h2
  ·rw[b,c];exact(hp.frame (H':=H2) (fun k hk=>h2 k (by have:=(hp.keys k hk).1;have:=h.lo;omega) (hp.keys k hk).2) (Nat.le_refl _) (Nat.le_refl _)).rowsF
 ·refine hperm.nodup_iff.2 (List.nodup_append.2 ⟨h.nd,hp.nd,fun a ha b hb e=> ?_⟩);have:=(h.ks a ha).2;have:=(hp.keys b hb).1;omega
 ·rcases List.mem_append.1 (hperm.mem_iff.1 hk)with hk | hk
  ·have:=h.ks k hk;omega
  ·have:=hp.keys k hk;have:=h.lo;omega
end
theorem o_start_w(q:QryE)(hq:q.fine){H:Heap}{n:Nat}(hG:GOK 1 1 H n):Zn prog 24 [Ze q] H n fun res H' n'=>n≤n'∧(∀k,k<n→H' k=H k)∧∃s:BL,res= .val (.tup [s.av,.bool (Zv q).2.1,.int .i64 (Zv q).2.2])∧BlW H' s (Zv q).1∧n≤s.k∧s.k<n':=by
 refine(JX q hq hG).full fun res H1 n1 ⟨a,ks,hr,hm⟩=>⟨a,Yt q,ks,hr,hm.own,hm.nd,fun k hk=>(hm.lo k hk).2,fun r' H2 n2 ks' ho hf=> ?_⟩;unfold Yt at ho;cases ho with
 | nk h=>exact h.elim
 | tup h3=>cases h3 with
   | cons h4 h3=>cases h3 with
     | cons h5 h3=>cases h3 with
       | cons h6 h3=>cases h3 with
         | nil=>
           obtain⟨rfl,rfl⟩:=OwnF.of_nk h5 trivial;obtain⟨rfl,rfl⟩:=OwnF.of_nk h6 trivial;obtain⟨s,rfl,s1,s2,rfl⟩:=RP h4;have hle:=hf.le;have hnn:=hm.nn;refine⟨om,fun k hk=>(hf.out k om (fun h9=>by have:=(hm.lo k h9).1;omega)).trans (hm.low k hk),s,rfl,RX h4,?_⟩;rcases hf.sub s.k osi with h9 | h9
           ·have:=hm.lo _ h9;omega
           ·omega
theorem Jz{q:QryE}(hq:q.fine):(Zv q).1.length≤1099511627776:=by
 have h1:=(Kz q).len;have h2:=hq.frm;have h3:=hq.to;unfold Zv;split
 ·exact Nat.zero_le _
 ·split
  ·show(if q.rev then _ else _:List UInt8).length≤_;split
   ·omega
   ·rw[qe,qh];omega
  ·split
   ·show q.to.length≤_;omega
   ·show q.frm.length≤_;omega
theorem NXh0.eqs{P Q:Prop}(g:Imp P Q:=by(try simp only[go_sem,seval,hszs,hags,hmos,hszq,hagq,hmoq,hszp,hagp,hmop,qg]);exact Imp.rf):Imp P Q:=g
open NXh0 NY in
theorem c_ref13_Run(fs : List Fml)(hfs : fs.length ≤ 1048576)(q : QryE)(hq : q.fine)(clock : Int)(rows : List RowE)(hrw : YA rows)(H : Heap)(n : Nat):
   Ret prog 19 [Zh fs,Ze q,.int .i64 clock,.sl 2 (rows.map Zf)] H n (.tup [pgAV (runE fs q clock (some (rows,0))).1,.int .i64 (runE fs q clock (some (rows,0))).2.2]) H n:=by
 have hgo:=c_ref13_Goes fs hfs q hq clock rows hrw 0;rw[goesE_run]at hgo;obtain⟨z,hz⟩:∃z,z=runE fs q clock (some (rows,0)):=⟨_,rfl⟩;rw[←hz]at hgo ⊢;have hszs:(Zh fs).sz=1:=rfl;have hags:(Zh fs).isAgg=true:=rfl;have hmos:(Zh fs).memOK=true:=rfl;have hszq:(Ze q).sz=10:=ZT q;have hagq:(Ze q).isAgg=true:=rfl;have hmoq:(Ze q).memOK=true:=rfl;have hszp:(pgAV z.1).sz=3:=rfl;have hagp:(pgAV z.1).isAgg=true:=rfl;have hmop:(pgAV z.1).memOK=true:=rfl;refine Ret.fin ?_;refine fw func19 ntmps19 results19 ?_;refine rg zs [2,3,4,5,8] ?_;refine rc zs [8,10,12] func57 ((hgo _ _)) ?_;refine rg zs [8,9] ?_;refine ar ?_;exact⟨_,rfl,fun k hk=>oh,.kl ⟨kl_pg _ _,trivial,trivial⟩⟩
theorem lent_page(q0 : QryE)(hq0 : q0.fine)(rows : List RowE)(hrk : YA (Z5 ++ rows))(m : Int)(m1 : 1 ≤ m)(m4 : m ≤ 4){qM : QryE}(hqM : qM = { Yi twoF q0 with rows := m }){L : List RowE}(hL : L = UX 2 (Z5 ++ rows)):
   qM.fine∧(Zz qM).2.2=0∧YA L∧YA (Wx qM L)∧(-9223372036854775808≤qM.time∧qM.time<9223372036854775808)∧∃z,(runE twoF qM 5 (some (Wx qM L,0))).1=z∧(runE twoF qM 5 (some (Wx qM L,0))).2.2=0∧PgB z∧z.token.length≤1048576:=by
 have hA:=ask_of twoF J9 hq0 (Z5++rows);have hLk:YA L:=hL▸neatE_ok (nf:=2) hrk;rw[show UX twoF.length (Z5++rows)=L from hL.symm]at hA;obtain⟨V,hV⟩:∃V,V=allV (Yi twoF q0) (Z6 twoF (Yi twoF q0)) L:=⟨_,rfl⟩;rw[←hV]at hA;have hq2:qAt (Yi twoF q0) V 0 m=qM:=by rw[hqM];unfold qAt QE;rw[if_pos rfl,←hA.tok]
 obtain⟨z1,z2⟩:=hA.page (j:=0) (Nat.zero_le _) (m:=m) m1 om (c:=5) om om (fun _=> .inl rfl);rw[hq2]at z1 z2;have hrb:∀r∈V,r.row.length≤1099511627776∧r.cells.length≤1048576∧∀c∈r.cells,c.qual.length≤1099511627776∧c.value.length≤1099511627776:=fun r hr=>by
   refine⟨by have:=(hA.mem hr).2.2;omega,?_⟩;rw[hV]at hr;unfold allV visL at hr;obtain⟨y,hy,rfl⟩:=List.mem_map.1 hr;have h9:=(hLk.2 y (Lb.1 (List.mem_filter.1 hy).1)).2;exact⟨Nat.le_trans (List.length_filter_le _ _) h9.1,fun c hc=>h9.2 c (List.mem_filter.1 hc).1⟩
 have ht:=hA.time;refine⟨hq2▸hA.fineAt (Nat.zero_le _) m,?_,hLk,from_ok hLk,by rw[hqM];show -9223372036854775808≤(Yi twoF q0).time∧(Yi twoF q0).time<_;omega,_,z2,z1,?_⟩
 ·rw[readQ_nil (show qM.token=[] by rw[hqM];exact ME _ _)]
 ·unfold pgAt;split
  ·rename_i h9;rw[List.drop_zero]at h9 ⊢;exact⟨⟨by show V.length≤4;omega,Nat.zero_le _,hrb⟩,Nat.zero_le _⟩
  ·rename_i h9;rw[List.drop_zero]at h9 ⊢;have h8:=pgTok_len hA (0+m.toNat) om;exact⟨⟨by show(V.take m.toNat).length≤4;rw[qk];omega,by show(QE (Yi twoF q0) V (0+m.toNat)).length≤_;omega,fun r hr=>hrb r (List.mem_of_mem_take hr)⟩,by show(QE (Yi twoF q0) V (0+m.toNat)).length≤_;omega⟩
theorem way_is:∀i,i<6→∃w:Nat,w<2∧nth [.int .i64 0,.int .i64 0,.int .i64 1,.int .i64 1,.int .i64 0,.int .i64 1] i= .int .i64 (w:Int)∧AV.szs (List.take i [.int .i64 0,.int .i64 0,.int .i64 1,.int .i64 1,.int .i64 0,.int .i64 1])=i
 | 0,_=>⟨0,odc,rfl,rfl⟩
 | 1,_=>⟨0,odc,rfl,rfl⟩
 | 2,_=>⟨1,odc,rfl,rfl⟩
 | 3,_=>⟨1,odc,rfl,rfl⟩
 | 4,_=>⟨0,odc,rfl,rfl⟩
 | 5,_=>⟨1,odc,rfl,rfl⟩
 | i+6,h=>om
theorem two_is(q o:QryE)(hq:q.fine)(ho:o.fine):∀w,w<2→∃q0:QryE,q0.fine∧nth [Ze (Yi twoF q),Ze (Yi twoF o)] w=Ze (Yi twoF q0)∧AV.szs (List.take w [Ze (Yi twoF q),Ze (Yi twoF o)])=w*10
 | 0,_=>⟨q,hq,rfl,rfl⟩
 | 1,_=>⟨o,ho,rfl,by simp[AV.szs,ZT]⟩
 | w+2,h=>om
theorem NXi0.eqs{P Q:Prop}(g:Imp P Q:=by(try simp only[go_sem,seval,hst,hsq,hnum,hnua,hnum2,hszo,hmoo,hago,hszp,hmop,hagp,hszq,hagq,hmoq,f1,f2,g1,g2,g3,g4,g5,g6,b1,b2,b3,b4,b5,b6,e1,e2,e3,e4,e5,e6,e7,qg,qb,qd]);exact Imp.rf):Imp P Q:=g
theorem NXi0.inz{P Q:Prop}(g:Imp P Q:=by refine Imp.up eqs ?_;(repeat (first | (refine Imp.nd ?_ ?_;· first | ((repeat' apply And.intro)<;>first | (intro d hd;cases hd;exact cq_two _) | (intro d hd;cases hd;exact Nk hq _) | (intro d hd;cases hd;exact Nk ho _) | (intro g;trivial) | (intro g;rfl)) | exact⟨by decide,.inr trivial,by omega,by omega⟩ | ((repeat' apply And.intro)<;>first | (intro d hd;cases hd;exact cq_two _) | (intro d hd;cases hd;exact hcr _) | (intro g;trivial) | (intro g;rfl))) | refine Imp.pl ?_));exact Imp.rf):Imp P Q:=g
set_option maxRecDepth 100000 in
set_option maxHeartbeats 6400000 in
open NXi0 in
theorem Lj(q : QryE)(hq : q.fine)(o : QryE)(ho : o.fine)(rows : List RowE)(hrw : YA rows)(hrl : rows.length ≤ 1048573)(H : Heap)(n : Nat)(hG : GOK 1 1 H n):
   Ret prog 3 [Ze q,Ze o,.sl 2 (rows.map Zf)] H n (.bool true) H n:=by
 have hszq:∀q,(Ze q).sz=10:=ZT;have hagq:∀q,(Ze q).isAgg=true:=fun _=>rfl;have hmoq:∀q,(Ze q).memOK=true:=fun _=>rfl;have hszo:∀p:PO,p.av.sz=3:=fun _=>rfl;have hmoo:∀p:PO,p.av.memOK=true:=fun _=>rfl;have hago:∀p:PO,p.av.isAgg=true:=fun _=>rfl;have hnum:∀l,(Zx l).sz=1:=fun _=>rfl;have hnua:∀l,(Zx l).isAgg=false:=fun _=>rfl;have hnum2:∀l,(Zx l).memOK=true:=fun _=>rfl;have hsq:∀q,strip true (Ze q)=Ze q:=fun _=>rfl;have hst:∀s:BL,strip true s.av=s.av:=fun _=>rfl;have hszp:∀z,(pgAV z).sz=3:=fun _=>rfl;have hmop:∀z,(pgAV z).memOK=true:=fun _=>rfl;have hagp:∀z,(pgAV z).isAgg=true:=fun _=>rfl;have hg1:=hG.gek;have hg2:=hG.get;have f1:(n=n+1)=False:=by simp
 have f2:(n+1=n)=False:=by simp
 have g1:=f1;have g2:=f1;have g3:=f1;have g4:=f1;have g5:=f1;have g6:=f1;have b1:=f1;have b2:=f1;have b3:=f1;have b4:=f1;have b5:=f1;have b6:=f1;have e1:=f1;have e2:=f1;have e3:=f1;have e4:=f1;have e5:=f1;have e6:=f1;have e7:=f1;have hrk:=rowsOK_app Q3 hrw (by show 3+rows.length≤_;omega);have POav:∀p:PO,p.av= .agg [.osl p.kR p.vR 0 p.rs.length,.osl p.t.k p.t.v 0 p.t.l,.bool p.done]:=fun _=>rfl;refine Ret.fin ?_;refine fw func3 ntmps3 results3 ?_;refine rg zs [2,3,4] ?_;refine Y0 rfl zs [2,7] [.c,.q,.c,.c,.q,.c,.q,.w [0,1,2,3,4,5,6],.w []] [0,1,2,3,4,5,6,7,8] [0,1,2,3,4,5,6,7,8] (by kernel_rfl) (fun _ _ _ _ _ h=>h) fun K V=> ?_
 try simp only[go_sem,seval,hst,hsq,hnum,hnua,hnum2,hszo,hmoo,hago,hszp,hmop,hagp,hszq,hagq,hmoq,f1,f2,g1,g2,g3,g4,g5,g6,b1,b2,b3,b4,b5,b6,e1,e2,e3,e4,e5,e6,e7,qg,qb,qd,Option.some.injEq,Prod.mk.injEq,true_and,exists_eq_left',and_self]
 repeat refine peel ?_
 refine ZQ func14 rfl rfl rfl (fun _ n=>(Xn _ _)) ?_
 try simp only[go_sem,seval,hst,hsq,hnum,hnua,hnum2,hszo,hmoo,hago,hszp,hmop,hagp,hszq,hagq,hmoq,f1,f2,g1,g2,g3,g4,g5,g6,b1,b2,b3,b4,b5,b6,e1,e2,e3,e4,e5,e6,e7,qg,qb,qd,Option.some.injEq,Prod.mk.injEq,true_and,exists_eq_left',and_self]
 repeat refine peel ?_
 refine ZQ func13 rfl rfl rfl (fun _ n=>(Qy twoF (by decide) q hq)) ?_
 try simp only[go_sem,seval,hst,hsq,hnum,hnua,hnum2,hszo,hmoo,hago,hszp,hmop,hagp,hszq,hagq,hmoq,f1,f2,g1,g2,g3,g4,g5,g6,b1,b2,b3,b4,b5,b6,e1,e2,e3,e4,e5,e6,e7,qg,qb,qd,Option.some.injEq,Prod.mk.injEq,true_and,exists_eq_left',and_self]
 repeat refine peel ?_
 refine ZQ func14 rfl rfl rfl (fun _ n=>(Xn _ _)) ?_
 try simp only[go_sem,seval,hst,hsq,hnum,hnua,hnum2,hszo,hmoo,hago,hszp,hmop,hagp,hszq,hagq,hmoq,f1,f2,g1,g2,g3,g4,g5,g6,b1,b2,b3,b4,b5,b6,e1,e2,e3,e4,e5,e6,e7,qg,qb,qd,Option.some.injEq,Prod.mk.injEq,true_and,exists_eq_left',and_self]
 repeat refine peel ?_
 refine ZQ func13 rfl rfl rfl (fun _ n=>(Qy twoF (by decide) o ho)) ?_
 try simp only[go_sem,seval,hst,hsq,hnum,hnua,hnum2,hszo,hmoo,hago,hszp,hmop,hagp,hszq,hagq,hmoq,f1,f2,g1,g2,g3,g4,g5,g6,b1,b2,b3,b4,b5,b6,e1,e2,e3,e4,e5,e6,e7,qg,qb,qd,Option.some.injEq,Prod.mk.injEq,true_and,exists_eq_left',and_self]
 repeat (first | (refine And.intro ?_ ?_;· first | ((repeat' apply And.intro)<;>first | (intro d hd;cases hd;exact cq_two _) | (intro d hd;cases hd;exact Nk hq _) | (intro d hd;cases hd;exact Nk ho _) | (intro g;trivial) | (intro g;rfl))) | refine peel ?_)
 apply V;clear V K;refine rg zs [2,7,8] ?_;refine rg zs [2,7,8,9] ?_;refine rg zs [2,7,8,9,10] ?_;refine Za fun K1 hK1=> ?_;refine ZO (n+3) 1 (ver:=0) (e:=2) (els:=[.agg [.nilsl,.nilsl]]) (els':=[.agg [.osl (n+6) 0 0 0,.nilsl]]) (by first | ((try simp only[Rl]);(repeat first | rw[if_pos rfl] | rw[if_pos trivial] | rw[if_neg (by omega)]);done) | ((try simp only[Rl]);(repeat first | rw[if_pos rfl] | rw[if_pos trivial] | rw[if_neg (by omega)]);rfl)) ⟨Adp.agg ⟨Adp.nilsl _,.refl _ _,trivial⟩,trivial⟩ ?_;refine ZO (n+3) 1 (ver:=0) (e:=2) (els:=[.agg [.osl (n+6) 0 0 0,.nilsl]]) (els':=[.agg [.osl (n+6) 0 0 0,.osl (n+7) 0 0 0]]) (by first | ((try simp only[Rl]);(repeat first | rw[if_pos rfl] | rw[if_pos trivial] | rw[if_neg (by omega)]);done) | ((try simp only[Rl]);(repeat first | rw[if_pos rfl] | rw[if_pos trivial] | rw[if_neg (by omega)]);rfl)) ⟨Adp.agg ⟨.refl _ _,Adp.nilsl _,trivial⟩,trivial⟩ ?_;refine ZO (n+4) 1 (ver:=0) (e:=3) (els:=[.agg [.nilsl,.nilsl,.nilsl]]) (els':=[.agg [.osl (n+8) 0 0 0,.nilsl,.nilsl]]) (by first | ((try simp only[Rl]);(repeat first | rw[if_pos rfl] | rw[if_pos trivial] | rw[if_neg (by omega)]);done) | ((try simp only[Rl]);(repeat first | rw[if_pos rfl] | rw[if_pos trivial] | rw[if_neg (by omega)]);rfl)) ⟨Adp.agg ⟨Adp.nilsl _,.refl _ _,.refl _ _,trivial⟩,trivial⟩ ?_;refine ZO (n+4) 1 (ver:=0) (e:=3) (els:=[.agg [.osl (n+8) 0 0 0,.nilsl,.nilsl]]) (els':=[.agg [.osl (n+8) 0 0 0,.osl (n+9) 0 0 0,.nilsl]]) (by first | ((try simp only[Rl]);(repeat first | rw[if_pos rfl] | rw[if_pos trivial] | rw[if_neg (by omega)]);done) | ((try simp only[Rl]);(repeat first | rw[if_pos rfl] | rw[if_pos trivial] | rw[if_neg (by omega)]);rfl)) ⟨Adp.agg ⟨.refl _ _,Adp.nilsl _,.refl _ _,trivial⟩,trivial⟩ ?_;refine ZO (n+4) 1 (ver:=0) (e:=3) (els:=[.agg [.osl (n+8) 0 0 0,.osl (n+9) 0 0 0,.nilsl]]) (els':=[.agg [.osl (n+8) 0 0 0,.osl (n+9) 0 0 0,.osl (n+10) 0 0 0]]) (by first | ((try simp only[Rl]);(repeat first | rw[if_pos rfl] | rw[if_pos trivial] | rw[if_neg (by omega)]);done) | ((try simp only[Rl]);(repeat first | rw[if_pos rfl] | rw[if_pos trivial] | rw[if_neg (by omega)]);rfl)) ⟨Adp.agg ⟨.refl _ _,.refl _ _,Adp.nilsl _,trivial⟩,trivial⟩ ?_;refine ZG (fun H' n'=>H' (n+2)=some (.arr 0 20 [.agg [Ze (Yi twoF q),Ze (Yi twoF o)]])∧H' (n+5)=some (.arr 0 6 [.agg [.int .i64 0,.int .i64 0,.int .i64 1,.int .i64 1,.int .i64 0,.int .i64 1]])∧BkS H' (n+3) (n+6) 0 (n+7) 0 [] []∧PgS H' (n+4) (n+8) 0 (n+9) 0 (n+10) 0 [] [] []∧(∀k,k<n→H' k=H k)∧n'=n+11) ⟨by first | ((try simp only[Rl]);(repeat first | rw[if_pos rfl] | rw[if_pos trivial] | rw[if_neg (by omega)]);done) | ((try simp only[Rl]);(repeat first | rw[if_pos rfl] | rw[if_pos trivial] | rw[if_neg (by omega)]);rfl),by first | ((try simp only[Rl]);(repeat first | rw[if_pos rfl] | rw[if_pos trivial] | rw[if_neg (by omega)]);done) | ((try simp only[Rl]);(repeat first | rw[if_pos rfl] | rw[if_pos trivial] | rw[if_neg (by omega)]);rfl),⟨by first | ((try simp only[Rl]);(repeat first | rw[if_pos rfl] | rw[if_pos trivial] | rw[if_neg (by omega)]);done) | ((try simp only[Rl]);(repeat first | rw[if_pos rfl] | rw[if_pos trivial] | rw[if_neg (by omega)]);rfl),by first | ((try simp only[Rl]);(repeat first | rw[if_pos rfl] | rw[if_pos trivial] | rw[if_neg (by omega)]);done) | ((try simp only[Rl]);(repeat first | rw[if_pos rfl] | rw[if_pos trivial] | rw[if_neg (by omega)]);rfl),by first | ((try simp only[Rl]);(repeat first | rw[if_pos rfl] | rw[if_pos trivial] | rw[if_neg (by omega)]);done) | ((try simp only[Rl]);(repeat first | rw[if_pos rfl] | rw[if_pos trivial] | rw[if_neg (by omega)]);rfl),rfl⟩,⟨by first | ((try simp only[Rl]);(repeat first | rw[if_pos rfl] | rw[if_pos trivial] | rw[if_neg (by omega)]);done) | ((try simp only[Rl]);(repeat first | rw[if_pos rfl] | rw[if_pos trivial] | rw[if_neg (by omega)]);rfl),by first | ((try simp only[Rl]);(repeat first | rw[if_pos rfl] | rw[if_pos trivial] | rw[if_neg (by omega)]);done) | ((try simp only[Rl]);(repeat first | rw[if_pos rfl] | rw[if_pos trivial] | rw[if_neg (by omega)]);rfl),by first | ((try simp only[Rl]);(repeat first | rw[if_pos rfl] | rw[if_pos trivial] | rw[if_neg (by omega)]);done) | ((try simp only[Rl]);(repeat first | rw[if_pos rfl] | rw[if_pos trivial] | rw[if_neg (by omega)]);rfl),by first | ((try simp only[Rl]);(repeat first | rw[if_pos rfl] | rw[if_pos trivial] | rw[if_neg (by omega)]);done) | ((try simp only[Rl]);(repeat first | rw[if_pos rfl] | rw[if_pos trivial] | rw[if_neg (by omega)]);rfl),rfl⟩,fun k hk=>by(try simp only[Rl]);(repeat first | rw[if_pos rfl] | rw[if_pos trivial] | rw[if_neg (by omega)]),rfl⟩ fun H0 n0 ⟨d1,d2,d3,d4,hlow0,hn0⟩=> ?_;have hY:Lay (n+3) (n+6) (n+7) (n+4) (n+8) (n+9) (n+10) (n+3) (n+5) (n+11) n:=⟨rfl,rfl,rfl,rfl,rfl,rfl,rfl,rfl,rfl,rfl⟩;refine rg zs [2,7,8,9,10,11] ?_;refine Zq ?_;refine Zk (fun T' H' n'=>∃(i vL vW vR vC vV:Nat) (bs:List BL) (ws:List (List UInt8)) (rs cs:List BL) (wss:List (List RowE)),i≤6∧T'=tl [(2,.sl 2 (rows.map Zf)),(7,.loc (n+2) 0 0 0 []),(8,.loc (n+3) 0 0 0 []),(9,.loc (n+4) 0 0 0 []),(10,.loc (n+5) 0 0 0 []),(11,.int .i64 i)]∧H' (n+2)=some (.arr 0 20 [.agg [Ze (Yi twoF q),Ze (Yi twoF o)]])∧H' (n+5)=some (.arr 0 6 [.agg [.int .i64 0,.int .i64 0,.int .i64 1,.int .i64 1,.int .i64 0,.int .i64 1]])∧BkS H' (n+3) (n+6) vL (n+7) vW bs ws∧PgS H' (n+4) (n+8) vR (n+9) vC (n+10) vV rs cs wss∧LS (n+11) n' H' bs ws rs cs wss∧bs.length≤9000000*i∧rs.length≤i∧cs.length≤4*i∧∀k,k<n→H' k=H k) (fun T' _ _=>6-iv (T' 11)) ?_ ?_
 ·exact⟨0,0,0,0,0,0,[],[],[],[],[],Nat.zero_le _,rfl,d1,d2,d3,d4,hn0▸LS.init _ _,by simp,by simp,by simp,hlow0⟩
 rintro T1 H1 n1 ⟨i,vL,vW,vR,vC,vV,bs,ws,rs,cs,wss,hi,rfl,d1,d2,hB,hP,hL,hb9,hr9,hc9,hlow⟩;have b1:=d1;have b2:=d2;refine Za fun K2 hK2=> ?_;refine rg zs [2,7,8,9,10,11,41] ?_;refine Zb ?_ ?_<;>intro hb
 ·have hlt:i<6:=by have:=of_decide_eq_true hb;omega
  have e1:IntKind.i64.wrap ((i:Int)+1)=((i+1:Nat):Int):=w1 (by omega);refine ak ?_;apply hK2;refine bk fun K3 hK3=> ?_;obtain⟨w,hw2,e2,e3⟩:=way_is i hlt;obtain⟨q0,hq0,e4,e5⟩:=two_is q o hq ho w hw2;refine rg zs [2,7,8,9,10,11,12] ?_;obtain⟨m0,hm0⟩:∃x,x=n1:=⟨_,rfl⟩;have hLlo:=hL.lo;have g1:(n+5=n1)=False:=by simp;omega
  have e6:IntKind.i64.wrap (3*(w:Int))=3*(w:Int):=w64 (by omega) (by omega);have e7:IntKind.i64.wrap (1+3*(w:Int))=1+3*(w:Int):=w64 (by omega) (by omega);refine Zg zs [2,7,8,9,10,11,12] fun K V=> ?_
  try simp only[go_sem,seval,hst,hsq,hnum,hnua,hnum2,hszo,hmoo,hago,hszp,hmop,hagp,hszq,hagq,hmoq,f1,f2,g1,g2,g3,g4,g5,g6,b1,b2,b3,b4,b5,b6,e1,e2,e3,e4,e5,e6,e7,qg,qb,qd,Ze]
  repeat refine peel ?_
  apply V;clear V K;obtain⟨qM,hqM⟩:∃x,x={Yi twoF q0 with rows:=1+3*(w:Int)}:=⟨_,rfl⟩;obtain⟨L,hLd⟩:∃x,x=UX 2 (Z5++rows):=⟨_,rfl⟩;obtain⟨hqMf,hr0,hLk,hSk,hqt,z,hz1,hz2,hzB,hzt⟩:=lent_page q0 hq0 rows hrk (1+3*(w:Int)) (by omega) (by omega) hqM hLd;have hqMa:Ze qM= .agg [bys (Yi twoF q0).frm,bys (Yi twoF q0).to,Zx (Yi twoF q0).fams,bys (Yi twoF q0).pre,.int .i64 (Yi twoF q0).time,.int .i64 (Yi twoF q0).n,.int .i64 (1+3*(w:Int)),.bool (Yi twoF q0).rev,.str (Yi twoF q0).whr,bys (Yi twoF q0).token]:=by rw[hqM];rfl
  obtain⟨S,hS⟩:∃x,x=Wx qM L:=⟨_,rfl⟩;rw[←hS]at hSk hz1 hz2;refine ZG (fun H' n'=>H' m0=some (.arr 0 10 [Ze qM])∧(∀k,k<m0→H' k=H1 k)∧n'=m0+1) ⟨by rw[hqMa,hm0];first | ((try simp only[Rl]);(repeat first | rw[if_pos rfl] | rw[if_pos trivial] | rw[if_neg (by omega)]);done) | ((try simp only[Rl]);(repeat first | rw[if_pos rfl] | rw[if_pos trivial] | rw[if_neg (by omega)]);rfl),fun k hk=>by rw[hm0]at hk;(try simp only[Rl]);(repeat first | rw[if_pos rfl] | rw[if_pos trivial] | rw[if_neg (by omega)]),by omega⟩ fun H6 n6 ⟨b3,hl6,hn6⟩=> ?_;rw[←hm0];have hlow6:∀k,k<n→H6 k=H k:=fun k hk=>(hl6 k (by omega)).trans (hlow k hk);have g3:(m0=n6)=False:=by simp;omega
  refine dx zs [2,7,8,9,10,11,12,13,14] [.q,.c,.w [0],.m,.w [0],.w [0],.w [],.m,.q,.q,.q,.q] [0,1,3,2,4,5,6,7,8,9,10,11] [0,1,3,2,4,5,6,7,8,9,10,11] fun K V=> ?_;refine cq func14 (fun _ n=>(Xn _ _)) ?_;refine cK func17 (JS _ _) ?_ ?_
  ·intro p H' n' hc;cases hc.1
  intro rr H2 n2 hc;obtain⟨hr,hp1,hlo2,hn2⟩:=hc;cases hr;have b3:H2 m0=some (.arr 0 10 [Ze qM]):=(hlo2 _ (by omega)).trans b3;have g2:H2 n6=some (.arr 3 2 (Z5.map Zf)):=hp1;refine nz ?_;have hE:List.take 3 (List.map Zf Z5)++List.map Zf rows=(Z5++rows).map Zf:=by rw[qj];rfl
  have hLn:3+rows.length=(Z5++rows).length:=by rw[qe];rfl
  rw[hE,hLn];refine Zu func16 rfl rfl rfl (Ret.frzK (args':=[Zh twoF,.sl 2 ((Z5++rows).map Zf)]) n6 (Rm _ _ _) ⟨.refl _,fz_rows _,trivial⟩ (c_law13_neat twoF (by decide) (Z5++rows) hrk _ _)) ?_;rw[show UX twoF.length (Z5++rows)=L from hLd.symm];refine nz ?_;refine ck func15 ((hS▸retGok (fun hne=>by(try simp only[Rl]);(repeat first | rw[if_pos rfl] | rw[if_pos trivial] | rw[if_neg (by omega)]);rw[hlo2 _ (by omega),hlow6 _ (by omega)];exact hG.kindsC hne) (by(try simp only[Rl]);(repeat first | rw[if_pos rfl] | rw[if_pos trivial] | rw[if_neg (by omega)]);rw[hlo2 _ (by omega),hlow6 _ (by omega)];exact hG.table) fun hGx=>c_law13_from qM hqMf hr0 L hLk hGx)) ?_;apply V;clear V K;refine Za fun K4 hK4=> ?_;refine rg zs [2,7,8,9,10,11,12,13,66] ?_;refine Zb ?_ ?_<;>intro hb
  ·exact absurd hb (by decide)
  refine ak ?_;apply hK4;refine ZG (fun H' n'=>H' m0=some (.arr 0 10 [Ze qM])∧(∀k,k<m0→H' k=H1 k)∧m0<n') ⟨by(try simp only[Rl]);(repeat first | rw[if_pos rfl] | rw[if_pos trivial] | rw[if_neg (by omega)]);exact b3,fun k hk=>by(try simp only[Rl]);(repeat first | rw[if_pos rfl] | rw[if_pos trivial] | rw[if_neg (by omega)]);exact(hlo2 k (by omega)).trans (hl6 k hk),by omega⟩ fun H3 n3 ⟨b3,hl3,hn3⟩=> ?_;have hlow3:∀k,k<n→H3 k=H k:=fun k hk=>(hl3 k (by omega)).trans (hlow k hk);have g2:(m0=n3)=False:=by simp;omega
  have g5:(m0=n3+1)=False:=by simp;omega
  refine awp_seq_j (fun T' H' n'=>∃(kq:Nat) (p:PO),T'=tl [(2,.sl 2 (rows.map Zf)),(7,.loc (n+2) 0 0 0 []),(8,.loc (n+3) 0 0 0 []),(9,.loc (n+4) 0 0 0 []),(10,.loc (n+5) 0 0 0 []),(11,.int .i64 i),(12,.loc m0 0 0 0 []),(13,.sl 2 (S.map Zf)),(15,.loc kq 0 0 0 []),(16,.int .i64 0)]∧H' m0=some (.arr 0 10 [Ze qM])∧H' kq=some (.arr 0 3 [p.av])∧m0<kq∧kq<n'∧PgF n3 n' z H' p∧kq∉p.ks∧∀k,k<m0→H' k=H1 k) ?_ ?_
  ·refine awp_tree1 rfl zs [2,7,8,9,10,11,12,13,15,16] 10 [.c,.q,.m,.q,.w [0,1],.q,.w [],.m,.q,.q,.w [],.w [9],.q] [0,1,2,3,4,5,6,7,8,9] [11,12] (.w [0,1,3,5,8,9]) [(4,.w [0,1,3]),(6,.w [0,1,3,5])] [0,1,2,3,4,5,6,7,8,9,0,10,11] (by decide) (by kernel_rfl) (fun _ _ _ _ _ h=>h) fun K V=> ?_;refine nz ?_;refine cq func14 (fun _ n=>(Xn _ _)) ?_;refine And.intro ?_ ?_
   ·refine nz ?_;refine Zw (args':=[Zh twoF,Ze qM,.int .i64 5,.iface 52 (.loc _ 0 0 0 [])]) func18 rfl rfl rfl ((Kg twoF (by decide) qM hqMf 5 S 0 hSk _ ?_ ?_ hz1 hz2 hzB.2.1 fun r hr=>⟨(hzB.2.2 r hr).1,(hzB.2.2 r hr).2.2⟩)) ?_ ?_
    ·exact hG.on (fun k hk=>by(try simp only[Rl]);(repeat first | rw[if_pos rfl] | rw[if_pos trivial] | rw[if_neg (by omega)]);exact hlow3 k hk) (by omega)
    ·(try simp only[Rl]);(repeat first | rw[if_pos rfl] | rw[if_pos trivial] | rw[if_neg (by omega)]);rfl
    rotate_left
    ·intro p H' n' hc;obtain⟨_,_,_,hr,_⟩:=hc;cases hr
    intro rr H4 n4 hc;obtain⟨hn4,hlo4,p,hr,hp⟩:=hc;cases hr;have g4:(m0=n4)=False:=by simp;omega
    have b3:H4 m0=some (.arr 0 10 [Ze qM]):=(hlo4 _ (by omega) (by omega)).trans (by(try simp only[Rl]);(repeat first | rw[if_pos rfl] | rw[if_pos trivial] | rw[if_neg (by omega)]);exact b3);have b4:H4 n3=some (.arr 0 3 [.agg [.nilsl,.nilsl,.bool false]]):=(hlo4 _ (by omega) (by omega)).trans (by(try simp only[Rl]);(repeat first | rw[if_pos rfl] | rw[if_pos trivial] | rw[if_neg (by omega)]));have hlow4:∀k,k<m0→H4 k=H1 k:=fun k hk=>(hlo4 k (by omega) (by omega)).trans (by(try simp only[Rl]);(repeat first | rw[if_pos rfl] | rw[if_pos trivial] | rw[if_neg (by omega)]);exact hl3 k hk);refine nz ?_;apply V;clear V K;refine ns ?_;refine⟨_,p,rfl,?_⟩;have hkx:∀k,(k<n3+2∨n4≤k)→k∉p.ks:=fun k hk hm=>by have:=hp.keys k hm;omega
    have hpx:∀(k:Nat) (o:Option AObj) (m:Nat),k∉p.ks→n4≤m→PgF n3 m z (H4.put k o) p:=fun k o m hk hm=>hp.frame (fun j hj=>Rk _ _ fun e=>hk (e▸hj)) (by omega) hm
    (repeat' apply And.intro)<;>first | omega | (intro k hk;(try simp only[Rl]);(repeat first | rw[if_pos rfl] | rw[if_pos trivial] | rw[if_neg (by omega)]);exact hlow4 k hk) | (exact hpx _ _ _ (hkx _ (by omega)) (by omega)) | (exact hkx _ (by omega)) | ((try simp only[Rl]);(repeat first | rw[if_pos rfl] | rw[if_pos trivial] | rw[if_neg (by omega)]);done)
   refine nz ?_;refine And.intro ?_ ?_
   ·refine nz ?_;refine Zw (args':=[Zh twoF,Ze qM,.int .i64 5,.iface 52 (.loc _ 0 0 0 [])]) func18 rfl rfl rfl ((Kg twoF (by decide) qM hqMf 5 S 0 hSk _ ?_ ?_ hz1 hz2 hzB.2.1 fun r hr=>⟨(hzB.2.2 r hr).1,(hzB.2.2 r hr).2.2⟩)) ?_ ?_
    ·exact hG.on (fun k hk=>by(try simp only[Rl]);(repeat first | rw[if_pos rfl] | rw[if_pos trivial] | rw[if_neg (by omega)]);exact hlow3 k hk) (by omega)
    ·(try simp only[Rl]);(repeat first | rw[if_pos rfl] | rw[if_pos trivial] | rw[if_neg (by omega)]);rfl
    rotate_left
    ·intro p H' n' hc;obtain⟨_,_,_,hr,_⟩:=hc;cases hr
    intro rr H4 n4 hc;obtain⟨hn4,hlo4,p,hr,hp⟩:=hc;cases hr;have g4:(m0=n4)=False:=by simp;omega
    have b3:H4 m0=some (.arr 0 10 [Ze qM]):=(hlo4 _ (by omega) (by omega)).trans (by(try simp only[Rl]);(repeat first | rw[if_pos rfl] | rw[if_pos trivial] | rw[if_neg (by omega)]);exact b3);have b4:H4 (n3+1)=some (.arr 0 3 [.agg [.nilsl,.nilsl,.bool false]]):=(hlo4 _ (by omega) (by omega)).trans (by(try simp only[Rl]);(repeat first | rw[if_pos rfl] | rw[if_pos trivial] | rw[if_neg (by omega)]));have hlow4:∀k,k<m0→H4 k=H1 k:=fun k hk=>(hlo4 k (by omega) (by omega)).trans (by(try simp only[Rl]);(repeat first | rw[if_pos rfl] | rw[if_pos trivial] | rw[if_neg (by omega)]);exact hl3 k hk);refine nz ?_;apply V;clear V K;refine ns ?_;refine⟨_,p,rfl,?_⟩;have hkx:∀k,(k<n3+2∨n4≤k)→k∉p.ks:=fun k hk hm=>by have:=hp.keys k hm;omega
    have hpx:∀(k:Nat) (o:Option AObj) (m:Nat),k∉p.ks→n4≤m→PgF n3 m z (H4.put k o) p:=fun k o m hk hm=>hp.frame (fun j hj=>Rk _ _ fun e=>hk (e▸hj)) (by omega) hm
    (repeat' apply And.intro)<;>first | omega | (intro k hk;(try simp only[Rl]);(repeat first | rw[if_pos rfl] | rw[if_pos trivial] | rw[if_neg (by omega)]);exact hlow4 k hk) | (exact hpx _ _ _ (hkx _ (by omega)) (by omega)) | (exact hkx _ (by omega)) | ((try simp only[Rl]);(repeat first | rw[if_pos rfl] | rw[if_pos trivial] | rw[if_neg (by omega)]);done)
   refine nz ?_;refine Zw (args':=[Zh twoF,Ze qM,.int .i64 5,.iface 52 (.loc _ 0 0 0 [])]) func18 rfl rfl rfl ((Kg twoF (by decide) qM hqMf 5 S 0 hSk _ ?_ ?_ hz1 hz2 hzB.2.1 fun r hr=>⟨(hzB.2.2 r hr).1,(hzB.2.2 r hr).2.2⟩)) ?_ ?_
   ·exact hG.on (fun k hk=>by(try simp only[Rl]);(repeat first | rw[if_pos rfl] | rw[if_pos trivial] | rw[if_neg (by omega)]);exact hlow3 k hk) (by omega)
   ·(try simp only[Rl]);(repeat first | rw[if_pos rfl] | rw[if_pos trivial] | rw[if_neg (by omega)]);rfl
   rotate_left
   ·intro p H' n' hc;obtain⟨_,_,_,hr,_⟩:=hc;cases hr
   intro rr H4 n4 hc;obtain⟨hn4,hlo4,p,hr,hp⟩:=hc;cases hr;have g4:(m0=n4)=False:=by simp;omega
   have b3:H4 m0=some (.arr 0 10 [Ze qM]):=(hlo4 _ (by omega) (by omega)).trans (by(try simp only[Rl]);(repeat first | rw[if_pos rfl] | rw[if_pos trivial] | rw[if_neg (by omega)]);exact b3);have hlow4:∀k,k<m0→H4 k=H1 k:=fun k hk=>(hlo4 k (by omega) (by omega)).trans (by(try simp only[Rl]);(repeat first | rw[if_pos rfl] | rw[if_pos trivial] | rw[if_neg (by omega)]);exact hl3 k hk);refine nz ?_;apply V;clear V K;refine ns ?_;refine⟨_,p,rfl,?_⟩;have hkx:∀k,(k<n3+1∨n4≤k)→k∉p.ks:=fun k hk hm=>by have:=hp.keys k hm;omega
   have hpx:∀(k:Nat) (o:Option AObj) (m:Nat),k∉p.ks→n4≤m→PgF n3 m z (H4.put k o) p:=fun k o m hk hm=>hp.frame (fun j hj=>Rk _ _ fun e=>hk (e▸hj)) (by omega) hm
   (repeat' apply And.intro)<;>first | omega | (intro k hk;(try simp only[Rl]);(repeat first | rw[if_pos rfl] | rw[if_pos trivial] | rw[if_neg (by omega)]);exact hlow4 k hk) | (exact hpx _ _ _ (hkx _ (by omega)) (by omega)) | (exact hkx _ (by omega)) | ((try simp only[Rl]);(repeat first | rw[if_pos rfl] | rw[if_pos trivial] | rw[if_neg (by omega)]);done)
  rintro T9 H5 n5 ⟨kq,p,rfl,b3,b4,hkq,hkn,hp,hkpp,hlow5⟩;have hrun:∀(Hc:Heap) (m:Nat),Ret prog 19 [Zh twoF,Ze qM,.int .i64 5,.sl 2 (S.map Zf)] Hc m (.tup [pgAV z,.int .i64 0]) Hc m:=fun Hc m=>by
    have h9:=c_ref13_Run twoF (by decide) qM hqMf 5 S hSk Hc m;rw[hz1,hz2]at h9;exact h9
  have hcr:∀Hc:Heap,Jr prog (.fn (.func 19) [] []) [Zh twoF,Ze qM,.int .i64 5,.sl 2 (S.map Zf)] Hc (.tup [pgAV z,.int .i64 0]):=fun Hc m=>Zu func19 rfl rfl rfl (hrun Hc m) ⟨rfl,rfl,rfl⟩;have g6:(m0=n5)=False:=by simp;omega
  refine dx zs [2,7,8,9,10,11,12,15,16,17,18] [.c,.q,.m,.c,.m,.q,.q,.w [0,1,3,5,6],.w [6],.q] [0,1,2,3,4,5,6,7,8,9] [0,1,2,3,4,5,6,7,8,9] fun K V=> ?_;refine cq func14 (fun _ n=>(Xn _ _)) ?_;refine cq func19 (fun _ n=>(hrun _ _)) ?_;apply V;clear V K;refine Za fun K5 hK5=> ?_;refine ZG (fun H' n'=>H' m0=some (.arr 0 10 [Ze qM])∧H' kq=some (.arr 0 3 [p.av])∧H' n5=some (.arr 0 3 [pgAV z])∧(∀k,k<n5→H' k=H5 k)∧n'=n5+1) ⟨by(try simp only[Rl]);(repeat first | rw[if_pos rfl] | rw[if_pos trivial] | rw[if_neg (by omega)]);exact b3,by(try simp only[Rl]);(repeat first | rw[if_pos rfl] | rw[if_pos trivial] | rw[if_neg (by omega)]);exact b4,by first | ((try simp only[Rl]);(repeat first | rw[if_pos rfl] | rw[if_pos trivial] | rw[if_neg (by omega)]);done) | ((try simp only[Rl]);(repeat first | rw[if_pos rfl] | rw[if_pos trivial] | rw[if_neg (by omega)]);rfl),fun k hk=>by(try simp only[Rl]);(repeat first | rw[if_pos rfl] | rw[if_pos trivial] | rw[if_neg (by omega)]),by omega⟩ fun H7 n7 ⟨b3,b4,b5,hl7,hn7⟩=> ?_;have hp:=hp.frame (H':=H7) (fun k hk=>hl7 k (by have:=hp.keys k hk;omega)) (Nat.le_refl _) (Nat.le_refl _);have hsp:∀m:Nat,Ret prog 21 [p.av,pgAV z] H7 m (.bool true) H7 m:=fun m=>by
    have h9:=Mm z z (by have:=hzB.1;omega) (by have:=hzB.1;omega) (fun x hx=>(hzB.2.2 x hx).2.1) (fun x hx=>(hzB.2.2 x hx).2.1) (fun _=>none) 0;rw[decide_eq_true rfl]at h9;exact Ret.lend trivial (.cons (hp.own.own.frz fun _ _=>Nat.zero_le _) (.cons (.kl (kl_pg z 0)) .nil)) h9
  refine rk zs [2,7,8,9,10,11,12,15,17,93] fun K V=> ?_;refine ck func20 ((Wj _ _ _)) ?_;refine cg func21 (fun _=>(hsp _)) ?_;apply V;clear V K;refine Zb ?_ ?_<;>intro hb
  ·exact absurd hb (by simp)
  refine ak ?_;apply hK5;have hAll:∀k,k<m0→H7 k=H1 k:=fun k hk=>(hl7 k (by omega)).trans (hlow5 k hk);have hB:=hB.frame (H':=H7) (hAll _ (by omega)) (hAll _ (by omega)) (hAll _ (by omega));have hP:=hP.frame (H':=H7) (hAll _ (by omega)) (hAll _ (by omega)) (hAll _ (by omega)) (hAll _ (by omega));have hpL:=hp.frame (H':=H7) (lo':=n+11) (fun _ _=>rfl) (by omega) (Nat.le_refl _);refine rk zs [2,7,8,9,10,11,12,17] fun K V=> ?_;refine cK func22 ((x_law13_Keep (n+3) (n+6) vL (n+7) vW (n+4) (n+8) vR (n+9) vC (n+10) vV (n+3) (n+5) (n+11) n5 n hY bs ws rs cs wss _ _ hB hP p z hpL (by omega) (by omega) (by omega) (by omega) hzB.1 hzB.2.1 hzB.2.2)) ?_ ?_
  ·intro p H' n' hc;cases hc.1
  intro rr H8 n8 hc;obtain⟨hr,hn8,⟨vL,vW,hB⟩,⟨vR,vC,vV,hP⟩,hlo8⟩:=hc;cases hr;have hkn3:∀k∈p.ks,n3≤k:=fun k hk=>(hp.keys k hk).1;have hp:=hp.frame (H':=H8) (lo':=n1) (hi':=n8) (fun k hk=>by have:=hp.keys k hk;exact hlo8 k (by omega) (.inl (by omega))) (by omega) (by omega);have b3:=(hlo8 m0 (by omega) (.inl (by omega))).trans b3;have b5:=(hlo8 n5 (by omega) (.inl (by omega))).trans b5;have d1:=(hlo8 (n+2) (by omega) (.inr (.inl (by omega)))).trans ((hAll _ (by omega)).trans d1);have d2:=(hlo8 (n+5) (by omega) (.inr (.inr rfl))).trans ((hAll _ (by omega)).trans d2);have hlow:=fun k (hk:k<n)=>(hlo8 k (by omega) (.inr (.inl (by omega)))).trans ((hAll k (by omega)).trans (hlow k hk));have hpb:p.bls.length≤8388613:=by unfold PO.bls;rw[qi];have h9:=blsR_len p.rs (hp.clen fun x hx=>(hzB.2.2 x hx).2.1);have h8:=hp.len;have h7:=hzB.1;omega
  have hpr:=hp.len;refine nz ?_;apply V;clear V K;refine Zg zs [2,7,8,9,10,11,12] fun K V=> ?_
  try simp only[go_sem,seval,hst,hsq,hnum,hnua,hnum2,hszo,hmoo,hago,hszp,hmop,hagp,hszq,hagq,hmoq,f1,f2,g1,g2,g3,g4,g5,g6,b1,b2,b3,b4,b5,b6,e1,e2,e3,e4,e5,e6,e7,qg,qb,qd,pgAV,Ze]
  repeat refine peel ?_
  refine Zu func23 rfl rfl rfl ((Y9 z.token hzB.2.1 _ _)) ?_
  try simp only[go_sem,seval,hst,hsq,hnum,hnua,hnum2,hszo,hmoo,hago,hszp,hmop,hagp,hszq,hagq,hmoq,f1,f2,g1,g2,g3,g4,g5,g6,b1,b2,b3,b4,b5,b6,e1,e2,e3,e4,e5,e6,e7,qg,qb,qd,pgAV,Ze]
  repeat refine peel ?_
  apply V;clear V K;obtain⟨qT,hqT⟩:∃x,x={qM with token:=z.token}:=⟨_,rfl⟩;have hqTf:qT.fine:=hqT▸⟨hqMf.frm,hqMf.to,hqMf.fams,hqMf.pre,hqMf.whr,hzt⟩;have hqTa:Ze qT= .agg [bys qM.frm,bys qM.to,Zx qM.fams,bys qM.pre,.int .i64 qM.time,.int .i64 qM.n,.int .i64 qM.rows,.bool qM.rev,.str qM.whr,bys z.token]:=by rw[hqT];rfl
  have hqTt: -9223372036854775808≤qT.time∧qT.time<9223372036854775808:=by rw[hqT];exact hqt
  refine ZG (fun H' n'=>H' m0=some (.arr 0 10 [Ze qT])∧(∀k,k≠m0→H' k=H8 k)∧n'=n8) ⟨by rw[hqTa];first | ((try simp only[Rl]);(repeat first | rw[if_pos rfl] | rw[if_pos trivial] | rw[if_neg (by omega)]);done) | ((try simp only[Rl]);(repeat first | rw[if_pos rfl] | rw[if_pos trivial] | rw[if_neg (by omega)]);rfl),fun k hk=>by first | ((try simp only[Rl]);(repeat first | rw[if_pos rfl] | rw[if_pos trivial] | rw[if_neg (by omega)]);done) | (rw[Rk _ _ hk]),rfl⟩ fun H9 n9 ⟨b3,hl9,hn9⟩=> ?_;have hkeys:∀k∈p.ks,n3≤k:=hkn3;have hL:=hL.page (H':=H9) (n':=n8) (p:=p) (z:=z) (fun k h1 h2=>(hl9 k (by omega)).trans ((hlo8 k (by omega) (.inl h1)).trans (hAll k (by omega)))) (by omega) (hp.frame (fun k hk=>hl9 k (by have:=hkeys k hk;omega)) (Nat.le_refl _) (Nat.le_refl _)) hzB;have hB:=hB.frame (H':=H9) (hl9 _ (by omega)) (hl9 _ (by omega)) (hl9 _ (by omega));have hP:=hP.frame (H':=H9) (hl9 _ (by omega)) (hl9 _ (by omega)) (hl9 _ (by omega)) (hl9 _ (by omega));have d1:=(hl9 (n+2) (by omega)).trans d1;have d2:=(hl9 (n+5) (by omega)).trans d2;have hlow:∀k,k<n→H9 k=H k:=fun k hk=>(hl9 k (by omega)).trans (hlow k hk);refine rk zs [2,7,8,9,10,11,12,19,21] fun K V=> ?_;refine cK func24 ((o_start_w qT hqTf (hG.on hlow (by omega)))) ?_ ?_
  ·intro p H' n' hc;obtain⟨_,_,_,hr,_⟩:=hc;cases hr
  intro rr Ha na hc;obtain⟨hna,hloa,s1,hr,hs1,hs1k,hs1m⟩:=hc;cases hr;have b3:=(hloa m0 (by omega)).trans b3;refine nz ?_;apply V;clear V K;refine Zg zs [2,7,8,9,10,11,12,19,21,22,24] fun K V=> ?_
  try simp only[go_sem,seval,hst,hsq,hnum,hnua,hnum2,hszo,hmoo,hago,hszp,hmop,hagp,hszq,hagq,hmoq,f1,f2,g1,g2,g3,g4,g5,g6,b1,b2,b3,b4,b5,b6,e1,e2,e3,e4,e5,e6,e7,qg,qb,qd,Yt]
  repeat refine peel ?_
  refine Zu func25 rfl rfl rfl ((J4 qT hqTf hqTt _ _)) ?_
  try simp only[go_sem,seval,hst,hsq,hnum,hnua,hnum2,hszo,hmoo,hago,hszp,hmop,hagp,hszq,hagq,hmoq,f1,f2,g1,g2,g3,g4,g5,g6,b1,b2,b3,b4,b5,b6,e1,e2,e3,e4,e5,e6,e7,qg,qb,qd,Yt]
  repeat refine peel ?_
  apply V;clear V K;refine rk zs [2,7,8,9,10,11,19,21,22,24,25] fun K V=> ?_;refine cK func24 ((o_start_w qT hqTf (hG.on (fun k hk=>(hloa k (by omega)).trans (hlow k hk)) (by omega)))) ?_ ?_
  ·intro p H' n' hc;obtain⟨_,_,_,hr,_⟩:=hc;cases hr
  intro rr Hb nb hc;obtain⟨hnb,hlob,s2,hr,hs2,hs2k,hs2m⟩:=hc;cases hr;refine nz ?_;apply V;clear V K;refine Za fun K6 hK6=> ?_;have hs1:=hs1.frame (hlob s1.k hs1m);have hlb:∀k,k<n9→Hb k=H9 k:=fun k hk=>(hlob k (by omega)).trans (hloa k hk);have hsm:∀(s:BL),BlW Hb s (Zv qT).1→∀m:Nat,Ret prog 26 [s.av,bys (Zv qT).1] Hb m (.bool true) Hb m:=fun s hs m=>by
    have h9:=Qx (Zv qT).1 (Zv qT).1 (fun _=>none) 0;rw[beq_self_eq_true]at h9;exact Ret.lend trivial (.cons hs.frz (.cons (.kl (Xg _ _)) .nil)) h9
  refine rk zs [2,7,8,9,10,11,19,25,135] fun K V=> ?_;refine ck func20 ((Wj _ _ _)) ?_;refine cg func26 (fun _=>(hsm s1 hs1 _)) ?_;refine cg func26 (fun _=>(hsm s2 hs2 _)) ?_;apply V;clear V K;refine Zb ?_ ?_<;>intro hb
  ·exact absurd hb (by simp)
  refine ak ?_;apply hK6;have hB:=hB.frame (H':=Hb) (hlb _ (by omega)) (hlb _ (by omega)) (hlb _ (by omega));have hL:=(hL.bl (H':=Hb) (n':=na) (fun k h1 h2=>hlb k (by omega)) hs1 (Jz hqTf) ⟨by omega,hs1m⟩).bl (H':=Hb) (n':=nb) (fun _ _ _=>rfl) hs2 (Jz hqTf) ⟨hs2k,hs2m⟩;refine rk zs [2,7,8,9,10,11,25] fun K V=> ?_;refine cK func27 ((X8 (n+3) (n+6) vL (n+7) vW _ _ s1 (Zv qT).1 _ _ hB (by rw[qe];omega) hs1 (Jz hqTf) ⟨by omega,by omega,by omega⟩ ⟨by omega,by omega,by omega,by omega⟩)) ?_ ?_
  ·intro p H' n' hc;cases hc.1
  intro rr Hc nc hc;obtain⟨hr,hnc,⟨vL,vW,hB⟩,hloc⟩:=hc;cases hr;refine nz ?_;apply V;clear V K;refine rk1 zs [2,7,8,9,10,11] fun K V=> ?_;refine cK func27 ((X8 (n+3) (n+6) vL (n+7) vW _ _ s2 (Zv qT).1 _ _ hB (by rw[qe,qe,qh];omega) (hs2.frame (hloc s2.k hs2m (by omega) (by omega) (by omega))) (Jz hqTf) ⟨by omega,by omega,by omega⟩ ⟨by omega,by omega,by omega,by omega⟩)) ?_ ?_
  ·intro p H' n' hc;cases hc.1
  intro rr Hd nd hc;obtain⟨hr,hnd,⟨vL,vW,hB⟩,hlod⟩:=hc;cases hr;refine nz ?_;apply V;clear V K;refine ns ?_;apply hK3;refine rg1 zs [2,7,8,9,10,11] ?_;have hle:∀k,k<nb→k≠n+3→k≠n+6→k≠n+7→Hd k=Hb k:=fun k h1 h2 h3 h4=>(hlod k (by omega) h2 h3 h4).trans (hloc k h1 h2 h3 h4);refine⟨⟨i+1,vL,vW,vR,vC,vV,bs++p.bls++[s1]++[s2],_,rs++[p.rl],cs++p.rs.map RO.cl,wss++[z.rows],by omega,rfl,(hle _ (by omega) (by omega) (by omega) (by omega)).trans ((hlb _ (by omega)).trans d1),(hle _ (by omega) (by omega) (by omega) (by omega)).trans ((hlb _ (by omega)).trans d2),hB,hP.frame ((hle _ (by omega) (by omega) (by omega) (by omega)).trans (hlb _ (by omega))) ((hle _ (by omega) (by omega) (by omega) (by omega)).trans (hlb _ (by omega))) ((hle _ (by omega) (by omega) (by omega) (by omega)).trans (hlb _ (by omega))) ((hle _ (by omega) (by omega) (by omega) (by omega)).trans (hlb _ (by omega))),hL.frame (fun k h1 h2=>hle k h2 (by omega) (by omega) (by omega)) (by omega),?_,?_,?_,fun k hk=>(hle k (by omega) (by omega) (by omega) (by omega)).trans ((hlb k (by omega)).trans (hlow k hk))⟩,by omega⟩
  ·simp only[qe,qh];omega
  ·simp only[qe,qh];omega
  ·have:=hzB.1;simp only[qe,qb];omega
 have hi6:i=6:=by have:=of_decide_eq_false hb;omega
 have hLlo:=hL.lo;obtain⟨nrc,hdb,dis⟩:=List.nodup_append.1 hL.nd;obtain⟨hdr,hdc,drc⟩:=List.nodup_append.1 nrc;have kr:∀s∈rs,n+11≤s.k∧s.k<n1:=fun s hs=>hL.ks _ (List.mem_append_left _ (List.mem_append_left _ (List.mem_map.2 ⟨s,hs,rfl⟩)));have kc:∀s∈cs,n+11≤s.k∧s.k<n1:=fun s hs=>hL.ks _ (List.mem_append_left _ (List.mem_append_right _ (List.mem_map.2 ⟨s,hs,rfl⟩)));have kb:∀s∈bs,n+11≤s.k∧s.k<n1:=fun s hs=>hL.ks _ (List.mem_append_right _ (List.mem_map.2 ⟨s,hs,rfl⟩));have nrs:∀k,k<n+11→k∉rs.map (·.k):=fun k hk h=>by obtain⟨s,hs,e⟩:=List.mem_map.1 h;have:=kr s hs;omega
 have ncs:∀k,k<n+11→k∉cs.map (·.k):=fun k hk h=>by obtain⟨s,hs,e⟩:=List.mem_map.1 h;have:=kc s hs;omega
 have nbs:∀k,k<n+11→k∉bs.map (·.k):=fun k hk h=>by obtain⟨s,hs,e⟩:=List.mem_map.1 h;have:=kb s hs;omega
 refine ax ?_;apply hK1;refine rk zs [6] fun K V=> ?_;refine ck func28 ((U2 (n+3) (n+6) vL (n+7) vW bs ws _ _ hB (by omega) fun i hi=>(hL.b.get i hi).1)) ?_;refine⟨fun _=> ?_,fun h=>by cases h⟩;refine cK func29 (MU (n+4) (n+8) vR (n+9) vC (n+10) vV rs cs wss _ _ hP (by omega) (by omega) hL.r hL.c hL.r0 hdr hdc (fun k h1 h2=>drc k h1 k h2 rfl) ⟨by omega,by omega,by omega⟩ (fun s hs=>by have:=kr s hs;omega) (fun s hs=>by have:=kc s hs;omega)) ?_ ?_
 ·intro p H' n' hc;cases hc.1
 intro rr Hs ns hc;obtain⟨hr,hns,hlos⟩:=hc;cases hr;have hB:=hB.frame (hlos _ (by omega) (nrs _ (by omega)) (ncs _ (by omega))) (hlos _ (by omega) (nrs _ (by omega)) (ncs _ (by omega))) (hlos _ (by omega) (nrs _ (by omega)) (ncs _ (by omega)));have hAl:=hL.b.frame (H':=Hs) fun k hk=>hlos k (hL.ks k (List.mem_append_right _ hk)).2 (fun h=>dis k (List.mem_append_left _ h) k hk rfl) (fun h=>dis k (List.mem_append_right _ h) k hk rfl);refine nz ?_;refine nz ?_;refine⟨fun _=> ?_,fun h=>by cases h⟩;refine cK func30 (x_law1_Settle (n+3) (n+6) vL (n+7) vW bs ws _ _ hB (by omega) (fun i hi=>(hAl.get i hi).1) hL.b.le hdb ⟨by omega,by omega⟩ (fun s hs=>by have:=kb s hs;omega)) ?_ ?_
 ·intro p H' n' hc;cases hc.1
 intro rr Ht nt hc;obtain⟨hr,hnt,hlot⟩:=hc;cases hr;have hlowt:∀k,k<n→Ht k=H k:=fun k hk=>(hlot k (by omega) (nbs k (by omega))).trans ((hlos k (by omega) (nrs k (by omega)) (ncs k (by omega))).trans (hlow k hk));refine nz ?_;refine nz ?_;refine cg func31 (fun _=>(M7 _ _ (hG.on hlowt (by omega)))) ?_;apply V;clear V K;refine ar ?_;exact⟨_,rfl,hlowt,.kl trivial⟩
end Go.Proofs.YtkmkbndcekklmaaGreatDoor