/- Own layer: QueryTokens: what a token goes on with; one that was turned over; walked. Of the program; no condition. -/
import Derived.Test.YtkmkbndcekklmaaGreatDoorPL
import Derived.Test.YtkmkbndcekklmaaGreatDoorPF
import Derived.Test.YtkmkbndcekklmaaGreatDoorPK
import Derived.Test.YtkmkbndcekklmaaGreatDoorPJ
set_option linter.unusedSimpArgs false
set_option linter.unusedVariables false
set_option maxRecDepth 10000
namespace Go.Proofs.YtkmkbndcekklmaaGreatDoor
open Go Go.Sx Go.Rt Go.Proofs
theorem JN:ZC twoF=0:=by decide +kernel
theorem Lb {fs:List Fml} {q:QryE} (h:qcE fs q=0):ZC fs=0∧Ym fs.length q=true∧¬(0<q.whr.length∧(Xa fs q.whr).2.1≠0)∧(ZP q).2.2=0:=by
 unfold qcE at h
 split at h
 ·rename_i a;exact absurd h a
 rename_i a
 split at h
 ·exact absurd h odc
 rename_i b
 split at h
 ·rename_i c;exact absurd h c.2
 rename_i c
 exact⟨by simpa using a,by simpa using b,c,h⟩
theorem qcE_of {fs:List Fml} {q:QryE} (h1:ZC fs=0) (h2:Ym fs.length q=true) (h3:¬(0<q.whr.length∧(Xa fs q.whr).2.1≠0)):qcE fs q=(ZP q).2.2:=by
 unfold qcE
 rw[if_neg (by simp[h1]),if_neg (by simp[h2]),if_neg h3]
def qTok (q:QryE):QryE:={Qi twoF q with frm:=[],to:=[],fams:=[],pre:=[],whr:=[],rows:=1}
theorem qTok_fine (q:QryE):(qTok q).fine:=⟨Nat.zero_le _,Nat.zero_le _,Nat.zero_le _,Nat.zero_le _,Nat.zero_le _,by rw[show(qTok q).token=[]from X3 _ _];exact Nat.zero_le _⟩
theorem Ji {q:QryE} (h:q.token=[]):ZP q=(0,[],0):=by unfold ZP;rw[if_pos (by rw[h];rfl)]
theorem Lc (q:QryE) (t:List UInt8):Ym twoF.length {qTok q with token:=t}=true:=by
 have h:=(Lb (goodE_good JN q)).2.1
 unfold Ym VN at h
 simp only[Bool.and_eq_true,decide_eq_true_eq]at h
 unfold Ym VN Qj Ur qTok
 simp
 omega
theorem qTok_qcE (q:QryE) (t:List UInt8):qcE twoF {qTok q with token:=t}=(ZP {qTok q with token:=t}).2.2:=qcE_of JN (Lc q t) (by rintro⟨a,_⟩;simp[qTok]at a)
def atT (q:QryE):Int:=if (qTok q).time≠0 then(qTok q).time else 5
theorem atT_in (q:QryE):1≤atT q∧atT q≤1099511627776∧((qTok q).time=0∨(qTok q).time=atT q):=by
 have h:=Lc q []
 unfold Ym VN at h
 simp only[Bool.and_eq_true,decide_eq_true_eq]at h
 obtain⟨_,h⟩:=h
 have h1:0≤(qTok q).time∧(qTok q).time≤1099511627776:=⟨h.1.1.1.1.1.2,h.1.1.1.1.2⟩
 unfold atT
 split
 ·exact⟨om,om,.inr rfl⟩
 ·exact⟨om,om,.inl om⟩
def rowT (q:QryE):List UInt8:=if (qTok q).rev then[114,51]else[114,49]
def tokT (q:QryE):List UInt8:=tokB (qTok q) (atT q) (rowT q)
theorem rowT_len (q:QryE):(rowT q).length=2:=by unfold rowT;split<;>rfl
theorem ask_row {q:QryE} (h1:q.frm=[]) (h2:q.to=[]) (r:List UInt8):YU q r=true:=by
 unfold YU
 rw[h1,h2]
 have:=cb_nil r
 simp[this]
def qTrn (q:QryE) (t:List UInt8):QryE:={qTok q with token:=t}
theorem turned {q:QryE} {i:Nat} {c:UInt8} {t:List UInt8} (h:t=(tokT q).set i c):((qcE twoF (qTrn q t)==132)== !(t==tokT q))=true:=by
 have hq:=qTok_qcE q t
 by_cases e:t=tokT q
 ·obtain⟨a1,a2,a3⟩:=atT_in q
  have hr:ZP (qTrn q t)=(atT q,rowT q,0):=readQ_tok (q:=qTrn q t) (t:=atT q) (row:=rowT q) e a1 a2 a3 (by rw[rowT_len];decide) (by rw[rowT_len];decide) (ask_row rfl rfl _)
  have:qcE twoF (qTrn q t)=0:=by unfold qTrn;rw[hq];show(ZP (qTrn q t)).2.2=0;rw[hr]
  rw[this,e];simp
 ·have hr:=readQ_turn (q:=qTrn q t) (q0:=qTok q) (t:=atT q) (row:=rowT q) (i:=i) (c:=c) h rfl e
  have:qcE twoF (qTrn q t)=132:=by unfold qTrn;rw[hq];exact hr
  rw[this,beq_eq_false_iff_ne.2 e];rfl
end Go.Proofs.YtkmkbndcekklmaaGreatDoor
set_option maxRecDepth 10000
namespace Go.Proofs.YtkmkbndcekklmaaGreatDoor
open Go Go.Sx Go.Rt Go.Proofs Tryz
theorem from_ok {q:QryE} {l:List RowE} (h:YG l):YG (Wq q l):=by
 refine⟨?_,fun x hx=>h.2 x (QN.1 (List.mem_filter.1 hx).1)⟩
 refine Nat.le_trans (List.length_filter_le _ _) ?_
 have:(dirL q l).length=l.length:=by unfold dirL;split<;>simp
 rw[this];exact h.1
theorem retGok {f:FuncId} {args:List AV} {r:AV} {H:Heap} {n:Nat} (ha:(1:Nat)≠1→H 1=some (.glob 5 Lj)) (hb:H 1=some (.glob 1 Ul)) (h:GOK 1 1 H n→Ret prog f args H n r H n):Ret prog f args H n r H n:=
 Ret.below hb fun g2=>by
   by_cases hne:(1:Nat)=1
   ·exact h ⟨ha,hb,om,g2⟩
   ·exact Ret.below (ha hne) fun g1=>h ⟨ha,hb,g1,g2⟩
theorem cq_good {q:QryE} (hq:q.fine) (H:Heap):KM prog (.fn (.func 13) [] []) [Zi twoF,Zf q] H (Zf (Qi twoF q)):=fun m=>Zu func13 rfl rfl rfl (KG twoF odc q hq) ⟨rfl,rfl,rfl⟩
theorem NT60.eqs {P Q:Prop} (g:Imp P Q:=by(try simp only[go_sem,seval,hnum,hnua,hnum2,hszq,hagq,hmoq,hszp,hagp,hmop,f1,f2,f3,f4,f5,f6,b1,b2,b3,b4,g1,g2,g3,g4,Nat.add_assoc,List.length_map,Int.toNat_natCast]);exact Imp.rf):Imp P Q:=g
def Vg (nf:Nat) (c:CelE):Bool:=decide (0≤c.fam)&&decide (c.fam<(nf:Int))
def MN (nf:Nat) (x:RowE):RowE:=⟨x.row,x.cells.filter (Vg nf)⟩
def posN (l:List RowE) (r:List UInt8):Nat:=(l.takeWhile fun y=>decide (Lib.compareBytes y.row r<0)).length
def putN (l:List RowE) (r:RowE):List RowE:=
 if posN l r.row<l.length∧(l.getD (posN l r.row) default).row=r.row then l else l.take (posN l r.row)++[r]++l.drop (posN l r.row)
def VB (nf:Nat) (l:List RowE) (x:RowE):List RowE:=if x.row.length<1∨256<x.row.length then l else putN l (MN nf x)
def JD (nf:Nat) (l:List RowE):List RowE:=l.foldl (VB nf) []
def Wn (nf:Nat) (l:List RowE):List RowE:=JD nf (l.take 40)
theorem putN_len (l:List RowE) (r:RowE):(putN l r).length≤l.length+1:=by
 unfold putN
 split
 ·omega
 ·simp;omega
theorem stepN_len (nf:Nat) (l:List RowE) (x:RowE):(VB nf l x).length≤l.length+1:=by
 unfold VB
 split
 ·omega
 ·exact putN_len _ _
theorem foldN_len (nf:Nat):∀(m l:List RowE),(m.foldl (VB nf) l).length≤l.length+m.length
 | [],l=>osi
 | x::m,l=>by
   rw[List.foldl_cons,List.length_cons]
   have:=foldN_len nf m (VB nf l x)
   have:=stepN_len nf l x
   omega
theorem neatF_len (nf:Nat) (l:List RowE):(JD nf l).length≤l.length:=by have:=foldN_len nf l [];simpa [JD]using this
theorem neatF_snoc (nf:Nat) {l:List RowE} {i:Nat} (h:i<l.length):JD nf (l.take (i+1))=VB nf (JD nf (l.take i)) (l.getD i default):=by
 unfold JD
 rw[List.take_succ_eq_append_getElem h,List.foldl_append]
 simp[List.getD,h]
theorem posN_is {l:List RowE} {r:List UInt8} {a:Nat} (ha:a≤l.length) (h1:∀j,j<a→Lib.compareBytes (l.getD j default).row r<0) (h2:a=l.length∨¬Lib.compareBytes (l.getD a default).row r<0):posN l r=a:=by
 unfold posN
 induction l generalizing a with
 | nil=>simp at ha;simp[ha]
 | cons y l ih=>
   cases a with
   | zero=>
     rcases h2 with h2 | h2
     ·simp at h2
     ·rw[List.takeWhile_cons_of_neg (by simpa using h2)];rfl
   | succ a=>
     have h0:=h1 0 om
     rw[List.takeWhile_cons_of_pos (by simpa using h0),List.length_cons]
     congr 1
     exact ih (by simpa using ha) (fun j hj=>by have:=h1 (j+1) om;simpa using this) (by rcases h2 with h2 | h2;exact .inl (by simpa using h2);exact .inr (by simpa using h2))
theorem fz_cels {k ver:Nat} (l:List CelE):FzV k ver 4 (l.map Zp) (.osl k ver 0 l.length) (.sl 4 (l.map Zp)):=by
 have h:=FzV.osl (k:=k) (ver:=ver) (e:=4) (els:=l.map Zp) (off:=0) (len:=l.length) osi
 rwa [List.drop_zero,List.take_of_length_le osi]at h
theorem fz_rows {k ver:Nat} (l:List RowE):FzV k ver 2 (l.map Zg) (.osl k ver 0 l.length) (.sl 2 (l.map Zg)):=by
 have h:=FzV.osl (k:=k) (ver:=ver) (e:=2) (els:=l.map Zg) (off:=0) (len:=l.length) osi
 rwa [List.drop_zero,List.take_of_length_le osi]at h
theorem NT70.eqs {P Q:Prop} (g:Imp P Q:=by(try simp only[go_sem,seval,hszs,hags,hmos,hszr,hagr,hmor,hszc,hagc,hmoc,b1,b2,b3,hnth,hntc,hntl,e1,e2,e3,g1,g2,g3,g4,g5,g6,Nat.add_assoc,List.length_map,Int.toNat_natCast,Zt]);exact Imp.rf):Imp P Q:=g
theorem NT70.sd {P:Prop} (g:P:=by first | (intros;simp_all;done) | fail):P:=g
set_option maxHeartbeats 6400000 in
open NT70 NZ in
theorem c_law13_neat (fs:List Fml) (hfs:fs.length≤1048576) (l:List RowE) (hl:YG l) (H:Heap) (n:Nat):Ret prog 16 [Zi fs,.sl 2 (l.map Zg)] H n (.sl 2 ((Wn fs.length l).map Zg)) H n:=by
 have hszs:(Zi fs).sz=1:=rfl
 have hags:(Zi fs).isAgg=true:=rfl
 have hmos:(Zi fs).memOK=true:=rfl
 have hszr:∀r,(Zg r).sz=2:=VE
 have hagr:∀r,(Zg r).isAgg=true:=fun _=>rfl
 have hmor:∀r,(Zg r).memOK=true:=fun _=>rfl
 have hszc:∀r,(Zp r).sz=4:=Xx
 have hagc:∀r,(Zp r).isAgg=true:=fun _=>rfl
 have hmoc:∀r,(Zp r).memOK=true:=fun _=>rfl
 have hls:=hl.1
 have hlt:∀a b:List UInt8,Op.bytesLess a b=decide (Lib.compareBytes a b<0):=fun a b=>(WU a b).2
 obtain⟨N,hN⟩:∃N:Nat→List RowE,N=fun i=>JD fs.length (l.take i):=⟨_,rfl⟩
 have hNl:∀i,(N i).length≤i:=fun i=>by rw[hN];exact Nat.le_trans (neatF_len _ _) (by rw[List.length_take];omega)
 have b1:=hls
 have b2:=hls
 have b3:=hls
 have hnth:=hls
 have hntc:=hls
 have hntl:=hls
 have e1:=hls
 have e2:=hls
 have e3:=hls
 have g1:=hls
 have g2:=hls
 have g3:=hls
 have g4:=hls
 have g5:=hls
 have g6:=hls
 refine Ret.fin ?_
 refine fw func16 ntmps16 results16 ?_
 refine rg zs [1,2] ?_
 refine rg zs [1,2,5] ?_
 refine Za fun K1 hK1=> ?_
 refine rg zs [1,2,5,6] ?_
 refine Zq ?_
 refine Pk 5 (.sl 2 []) (.nilsl 2) ?_
 refine Yl [1,2,5,6] ?_
 refine ns ?_
 refine Zo (fun T' H' n'=>∃i:Nat,i≤l.length∧i≤40∧T'=tl [(1,.sl 2 (l.map Zg)),(2,.loc n 0 0 0 []),(5,.sl 2 ((N i).map Zg)),(6,.int .i64 i)]∧H' n=some (.arr 0 1 [Zi fs])∧(∀k,k<n→H' k=H k)∧n+1≤n') (fun T' _ _=>l.length-iv (T' 6)) ?_ ?_
 ·exact⟨0,Nat.zero_le _,Nat.zero_le _,by rw[hN];rfl,ohd,fun k hk=>oh,om⟩
 rintro T1 H1 n1 ⟨i,hi,hi40,rfl,b1,hlow,hn1⟩
 refine Za fun K2 hK2=> ?_
 refine rg zs [1,2,5,6,19] ?_
 refine Zb ?_ ?_<;>intro hb
 ·have hc2:=WX hb
  have hci:i<l.length:=by have:=of_decide_eq_true hc2.1;omega
  have hcj:i<40:=by have:=of_decide_eq_true hc2.2;omega
  have hnth:nth (l.map Zg) i=Zg (l.getD i default):=Zw Zg l i hci
  have e1:IntKind.i64.wrap ((i:Int)+1)=((i+1:Nat):Int):=w1 om
  have hxb:=hl.2 _ (YI l hci)
  have hNs:N (i+1)=VB fs.length (N i) (l.getD i default):=by rw[hN];exact neatF_snoc _ hci
  obtain⟨x,hx⟩:∃x,x=l.getD i default:=⟨_,rfl⟩
  rw[←hx]at hnth hxb hNs
  clear hx
  have hNi:=hNl i
  obtain⟨L,hL⟩:∃L,L=N i:=⟨_,rfl⟩
  rw[←hL]at hNs hNi ⊢
  have g1:(n=n1)=False:=oz
  have g2:(n=n1+1)=False:=oz
  have g3:(n1=n1+1)=False:=osi
  have g4:(n1+1=n1)=False:=osi
  refine ak ?_
  apply hK2
  refine bk fun K3 hK3=> ?_
  refine Ze zs [1,2,5,6,7] fun K J=> ?_
  try simp only[go_sem,seval,hszs,hags,hmos,hszr,hagr,hmor,hszc,hagc,hmoc,b1,b2,b3,hnth,hntc,hntl,e1,e2,e3,g1,g2,g3,g4,g5,g6,Nat.add_assoc,List.length_map,Int.toNat_natCast,Zt,Zg]
  repeat (first | (refine And.intro ?_ ?_;· first | exact⟨om,om⟩) | refine peel ?_)
  refine Zu func23 rfl rfl rfl ((Xd x.row hxb.1 _ _)) ?_
  try simp only[go_sem,seval,hszs,hags,hmos,hszr,hagr,hmor,hszc,hagc,hmoc,b1,b2,b3,hnth,hntc,hntl,e1,e2,e3,g1,g2,g3,g4,g5,g6,Nat.add_assoc,List.length_map,Int.toNat_natCast,Zt,Zg]
  repeat refine peel ?_
  apply J;clear J K
  refine Za fun K4 hK4=> ?_
  refine rg zs [1,2,5,6,7,8] ?_
  refine Zq ?_
  obtain⟨p,hp⟩:∃p,p=n1:=⟨_,rfl⟩
  subst hp
  refine Yr p 4 (ver:=0) (e:=2) (els:=[.agg [bys x.row,.nilsl]]) (els':=[.agg [bys x.row,.osl (p+1) 0 0 0]]) ohd ⟨Adp.agg ⟨.refl _ _,Adp.nilsl _,trivial⟩,trivial⟩ ?_
  refine Zo (fun T' H' n'=>∃(j ver:Nat),j≤x.cells.length∧T'=tl [(1,.sl 2 (l.map Zg)),(2,.loc n 0 0 0 []),(5,.sl 2 (L.map Zg)),(6,.int .i64 i),(7,.loc p 0 0 0 []),(8,.int .i64 j)]∧H' n=some (.arr 0 1 [Zi fs])∧H' p=some (.arr 0 2 [.agg [bys x.row,.osl (p+1) ver 0 ((x.cells.take j).filter (Vg fs.length)).length]])∧H' (p+1)=some (.arr ver 4 (((x.cells.take j).filter (Vg fs.length)).map Zp))∧(∀k,k<n→H' k=H k)∧p+2≤n') (fun T' _ _=>x.cells.length-iv (T' 8)) ?_ ?_
  ·exact⟨0,0,Nat.zero_le _,rfl,ohx b1,ohd,ohd,fun k hk=>ohx (hlow k hk),om⟩
  rintro T1 H1 n1 ⟨j,ver,hj,rfl,b1,b2,b3,hlow,hn1⟩
  refine Za fun K5 hK5=> ?_
  refine Ze zs [1,2,5,6,7,8,36] fun K J=> ?_
  try simp only[go_sem,seval,hszs,hags,hmos,hszr,hagr,hmor,hszc,hagc,hmoc,b1,b2,b3,hnth,hntc,hntl,e1,e2,e3,g1,g2,g3,g4,g5,g6,Nat.add_assoc,List.length_map,Int.toNat_natCast,Zt,Zg]
  repeat (first | (refine And.intro ?_ ?_;· first | exact⟨om,om⟩) | refine peel ?_)
  apply J;clear J K
  refine Zb ?_ ?_<;>intro hb
  ·have hcl:j<x.cells.length:=ott
   have hntc:nth (x.cells.map Zp) j=Zp (x.cells.getD j default):=Zw Zp x.cells j hcl
   have e2:IntKind.i64.wrap ((j:Int)+1)=((j+1:Nat):Int):=w1 om
   have hcb:=hxb.2.2 _ (YI x.cells hcl)
   have hfl:((x.cells.take j).filter (Vg fs.length)).length≤j:=Nat.le_trans (List.length_filter_le _ _) (by rw[List.length_take];omega)
   have hcs:(x.cells.take (j+1)).filter (Vg fs.length)=(x.cells.take j).filter (Vg fs.length)++(if Vg fs.length (x.cells.getD j default)then[x.cells.getD j default]else[]):=by rw[List.take_succ_eq_append_getElem hcl,List.filter_append];simp[List.getD,hcl,List.filter_cons]
   obtain⟨c,hc⟩:∃c,c=x.cells.getD j default:=⟨_,rfl⟩
   rw[←hc]at hntc hcb hcs
   clear hc
   have g5:(p=n1)=False:=oz
   have g6:(p+1=n1)=False:=oz
   have g7:(n=n1)=False:=oz
   refine ak ?_
   apply hK5
   refine Z6 [1,2,5,6,7,8] (fun T' H' n'=>∃ver,T'=tl [(1,.sl 2 (l.map Zg)),(2,.loc n 0 0 0 []),(5,.sl 2 (L.map Zg)),(6,.int .i64 i),(7,.loc p 0 0 0 []),(8,.int .i64 j)]∧H' n=some (.arr 0 1 [Zi fs])∧H' p=some (.arr 0 2 [.agg [bys x.row,.osl (p+1) ver 0 ((x.cells.take (j+1)).filter (Vg fs.length)).length]])∧H' (p+1)=some (.arr ver 4 (((x.cells.take (j+1)).filter (Vg fs.length)).map Zp))∧(∀k,k<n→H' k=H k)∧p+2≤n') ?_ ?_
   ·refine Zq ?_
    refine Ze zs [1,2,5,6,7,8,9] fun K J=> ?_
    try simp only[go_sem,seval,hszs,hags,hmos,hszr,hagr,hmor,hszc,hagc,hmoc,b1,b2,b3,hnth,hntc,hntl,e1,e2,e3,g1,g2,g3,g4,g5,g6,Nat.add_assoc,List.length_map,Int.toNat_natCast,Zt,Zg]
    repeat (first | (refine And.intro ?_ ?_;· first | exact⟨om,om⟩) | refine peel ?_)
    apply J;clear J K
    refine Ze zs [1,2,5,6,7,8,9,57] fun K J=> ?_
    try simp only[go_sem,seval,hszs,hags,hmos,hszr,hagr,hmor,hszc,hagc,hmoc,b1,b2,b3,hnth,hntc,hntl,e1,e2,e3,g1,g2,g3,g4,g5,g6,Nat.add_assoc,List.length_map,Int.toNat_natCast,Zt,Zp,Zi,g7]
    repeat (first | (refine And.intro ?_ ?_;· first | (intros;simp_all;done)) | refine peel ?_)
    apply J;clear J K
    refine Zb ?_ ?_<;>intro hb
    ·have hyes:Vg fs.length c=true:=by unfold Vg;have h9:=WX hb;simpa using h9
     refine Q4 rfl zs [1,2,5,6,7,8] [.q,.q,.q,.q,.q,.q,.c,.q,.q,.q,.q,.c,.q,.q,.w [],.q,.w []] [0,1,2,3,4,5,6,7,8,9,10,11,12,13,14,15,16] [0,1,2,3,4,5,6,7,8,9,10,11,12,13,14,15,16] (by kernel_rfl) (fun _ _ _ _ _ h=>h) fun K J=> ?_
     try simp only[go_sem,seval,hszs,hags,hmos,hszr,hagr,hmor,hszc,hagc,hmoc,b1,b2,b3,hnth,hntc,hntl,e1,e2,e3,g1,g2,g3,g4,g5,g6,Nat.add_assoc,List.length_map,Int.toNat_natCast,Zt,Zp,Zg,g7]
     repeat refine peel ?_
     refine ZL func23 rfl rfl rfl (fun _ n=>(Xd c.qual hcb.1 _ _)) ?_
     try simp only[go_sem,seval,hszs,hags,hmos,hszr,hagr,hmor,hszc,hagc,hmoc,b1,b2,b3,hnth,hntc,hntl,e1,e2,e3,g1,g2,g3,g4,g5,g6,Nat.add_assoc,List.length_map,Int.toNat_natCast,Zt,Zp,Zg,g7]
     repeat refine peel ?_
     refine ZL func23 rfl rfl rfl (fun _ n=>(Xd c.value hcb.2 _ _)) ?_
     try simp only[go_sem,seval,hszs,hags,hmos,hszr,hagr,hmor,hszc,hagc,hmoc,b1,b2,b3,hnth,hntc,hntl,e1,e2,e3,g1,g2,g3,g4,g5,g6,Nat.add_assoc,List.length_map,Int.toNat_natCast,Zt,Zp,Zg,g7]
     repeat (first | (refine And.intro ?_ ?_;· first | exact⟨rfl,by simp[AV.sz,AV.szs,AV.memOK]⟩ | exact⟨Nat.le_refl _,.inr trivial,om,om⟩) | refine peel ?_)
     apply J;clear J K
     refine ns ?_
     refine ns ?_
     first
     | (rw [hcs, hyes, if_pos rfl]
        rw[List.take_of_length_le (show(((x.cells.take j).filter (Vg fs.length)).map Zp).length≤((x.cells.take j).filter (Vg fs.length)).length by simp)]
        refine⟨ver+1,?_⟩;(repeat' apply And.intro)<;>first | rfl | (rw[List.length_append];rfl) | ((try simp only[Pv]);(repeat first | rw[if_pos rfl] | rw[if_pos trivial] | rw[if_neg om]);first | done | exact b1 | exact b2 | exact b3 | (rw[List.map_append];rfl) | (rw[List.length_append];rfl)) | (intro k hk;refine ohx ?_;exact hlow k hk) | omega)
    have hno:Vg fs.length c=false:=by unfold Vg;have h9:=hb;revert h9;cases decide (0≤c.fam)<;>cases decide (c.fam<(fs.length:Int))<;>simp_all
    refine ak ?_
    refine ns ?_
    first
    | (rw [hcs, hno]
       simp only[Bool.false_eq_true,if_false,List.append_nil]
       refine⟨ver,?_⟩;(repeat' apply And.intro)<;>first | rfl | ((try simp only[Pv]);(repeat first | rw[if_pos rfl] | rw[if_pos trivial] | rw[if_neg om]);first | done | exact b1 | exact b2 | exact b3) | (intro k hk;refine ohx ?_;exact hlow k hk) | omega)
   rintro T3 H3 n3 ⟨ver3,rfl,b1,b2,b3,hlow,hn3⟩
   refine rg1 zs [1,2,5,6,7,8] ?_
   refine⟨⟨j+1,ver3,?_⟩,om⟩;(repeat' apply And.intro)<;>first | rfl | omega | exact hlow | exact hn3
  have hcl:j=x.cells.length:=otf
  refine ax ?_
  apply hK4
  refine Za fun K6 hK6=> ?_
  subst hcl
  rw[List.take_length]at b2 b3
  refine Q3 (p+1) p (ver:=ver) (e:=4) (els:=(MN fs.length x).cells.map Zp) (vj:=0) (ej:=2) (lj:=[.agg [bys x.row,.osl (p+1) ver 0 (x.cells.filter (Vg fs.length)).length]]) (lj':=[Zg (MN fs.length x)]) b3 b2 om ⟨FzV.agg ⟨.refl _,fz_cels _,trivial⟩,trivial⟩ ?_
  obtain⟨r,hr⟩:∃r,r=MN fs.length x:=⟨_,rfl⟩
  have hrr:r.row=x.row:=by rw[hr];rfl
  rw[←hr]
  refine ZO (fun H' n'=>H' n=some (.arr 0 1 [Zi fs])∧H' p=some (.arr 0 2 [Zg r])∧(∀k,k<n→H' k=H k)∧p+2≤n') ⟨ohx b1,oh,fun k hk=>ohx (hlow k hk),hn1⟩ fun H3 n3 ⟨b1,b2,hlow,hn3⟩=> ?_
  refine Ze zs [1,2,5,6,7,83] fun K J=> ?_
  try simp only[go_sem,seval,hszs,hags,hmos,hszr,hagr,hmor,hszc,hagc,hmoc,b1,b2,b3,hnth,hntc,hntl,e1,e2,e3,g1,g2,g3,g4,g5,g6,Nat.add_assoc,List.length_map,Int.toNat_natCast,Zt,Zg]
  repeat refine peel ?_
  apply J;clear J K
  refine Zb ?_ ?_<;>intro hb
  ·have h9:x.row.length<1∨256<x.row.length:=Classical.byContradiction fun h=>by rw[hrr,decide_eq_false (show¬((x.row.length:Int)<1) by omega),decide_eq_false (show¬((256:Int)<(x.row.length:Int)) by omega)]at hb;exact absurd hb odc
   have hNs1:N (i+1)=L:=by rw[hNs];unfold VB;rw[if_pos h9]
   refine ax ?_
   apply hK3
   refine rg1 zs [1,2,5,6] ?_
   refine⟨⟨i+1,?_⟩,om⟩
   (repeat' apply And.intro)<;>first | omega | rfl | (rw[hNs1];done) | (rw[hNs2];done) | ((try simp only[Pv]);(repeat first | rw[if_pos rfl] | rw[if_pos trivial] | rw[if_neg om]);first | done | exact b1 | exact hlow) | (intro k hk;refine ohx ?_;exact hlow k hk)
  have h9:¬(x.row.length<1∨256<x.row.length):=fun h=>by
    rw[hrr]at hb
    rcases h with h | h
    ·rw[decide_eq_true (show(x.row.length:Int)<1 by omega)]at hb;exact absurd hb osi
    ·rw[decide_eq_true (show(256:Int)<(x.row.length:Int) by omega)]at hb;cases h7:decide ((x.row.length:Int)<1)<;>rw[h7]at hb<;>exact absurd hb osi
  have hNs1:N (i+1)=putN L r:=by rw[hNs];unfold VB;rw[if_neg h9,hr]
  refine ak ?_
  apply hK6
  refine rg zs [1,2,5,6,7,10] ?_
  refine Z6 [1,2,5,6,7,10] (fun T' H' n'=>T'=tl [(1,.sl 2 (l.map Zg)),(2,.loc n 0 0 0 []),(5,.sl 2 (L.map Zg)),(6,.int .i64 i),(7,.loc p 0 0 0 []),(10,.int .i64 (posN L r.row))]∧H'=H3∧n'=n3) ?_ ?_
  ·refine Zq ?_
   refine Zo (fun T' H' n'=>∃a:Nat,a≤L.length∧(∀j,j<a→Lib.compareBytes (L.getD j default).row r.row<0)∧T'=tl [(1,.sl 2 (l.map Zg)),(2,.loc n 0 0 0 []),(5,.sl 2 (L.map Zg)),(6,.int .i64 i),(7,.loc p 0 0 0 []),(10,.int .i64 a)]∧H'=H3∧n'=n3) (fun T' _ _=>L.length-iv (T' 10)) ?_ ?_
   ·exact⟨0,Nat.zero_le _,fun j hj=>om,rfl,rfl,rfl⟩
   rintro T1 H1 n1 ⟨a,ha,hbe,rfl,rfl,rfl⟩
   refine Za fun K7 hK7=> ?_
   rcases Nat.lt_or_ge a L.length with h14 | h14
   ·have hntl:nth (L.map Zg) a=Zg (L.getD a default):=Zw Zg L a h14
    have hd14:decide ((a:Int)<(L.length:Int))=true:=decide_eq_true om
    have e3:IntKind.i64.wrap ((a:Int)+1)=((a+1:Nat):Int):=w1 om
    refine Xe rfl zs [1,2,5,6,7,10,99] [.m,.m,.q,.q,.m,.m,.m,.q,.q,.q,.q,.q,.q,.q,.q,.q] [0,1,2,3,4,5,6,7,8,9,10,11,12,13,14,15] [0,1,2,3,4,5,6,7,8,9,10,11,12,13,14,15] (by kernel_rfl) (fun _ _ _ _ _ h=>h) fun K J=> ?_
    try simp only[go_sem,seval,hszs,hags,hmos,hszr,hagr,hmor,hszc,hagc,hmoc,b1,b2,b3,hnth,hntc,hntl,e1,e2,e3,g1,g2,g3,g4,g5,g6,Nat.add_assoc,List.length_map,Int.toNat_natCast,Zt,Zg,hntl,hd14]
    repeat (first | (refine And.intro ?_ ?_;· first | (intro _;exact YN _) | (intros;simp_all;done)) | refine peel ?_)
    apply J;clear J K
    refine Zb ?_ ?_<;>intro hb
    ·have hac:Lib.compareBytes (L.getD a default).row r.row<0:=by have h8:=hb;simp only[hlt]at h8;simpa using h8
     refine ak ?_
     apply hK7
     refine Zq ?_
     refine rg1 zs [1,2,5,6,7,10] ?_
     exact⟨⟨a+1,om,fun j hj=>by rcases Nat.lt_or_ge j a with h7 | h7;exact hbe j h7;(obtain rfl:j=a:=om);exact hac,rfl⟩,om⟩
    have hpos:posN L r.row=a:=posN_is ha hbe (.inr (by have h8:=hb;simp only[hlt]at h8;simpa using h8))
    refine ax ?_
    refine ns ?_
    rw[hpos]
   ·have hntl:nth (L.map Zg) a= .junk:=by simp[nth,List.getD,h14]
    have hd14:decide ((a:Int)<(L.length:Int))=false:=decide_eq_false om
    have e3:IntKind.i64.wrap ((a:Int)+1)=((a+1:Nat):Int):=w1 om
    refine Xe rfl zs [1,2,5,6,7,10,99] [.m,.m,.q,.q,.m,.m,.m,.q,.q,.q,.q,.q,.q,.q,.q,.q] [0,1,2,3,4,5,6,7,8,9,10,11,12,13,14,15] [0,1,2,3,4,5,6,7,8,9,10,11,12,13,14,15] (by kernel_rfl) (fun _ _ _ _ _ h=>h) fun K J=> ?_
    try simp only[go_sem,seval,hszs,hags,hmos,hszr,hagr,hmor,hszc,hagc,hmoc,b1,b2,b3,hnth,hntc,hntl,e1,e2,e3,g1,g2,g3,g4,g5,g6,Nat.add_assoc,List.length_map,Int.toNat_natCast,Zt,Zg,hntl,hd14]
    repeat (first | (refine And.intro ?_ ?_;· first | (intro _;exact YN _) | (intros;simp_all;done)) | refine peel ?_)
    apply J;clear J K
    refine Zb ?_ ?_<;>intro hb
    ·exact absurd hb osi
    have hpos:posN L r.row=a:=posN_is ha hbe (.inl om)
    refine ax ?_
    refine ns ?_
    rw[hpos]
  rintro T8 H8 n8 ⟨rfl,rfl,rfl⟩
  obtain⟨P,hP⟩:∃P,P=posN L r.row:=⟨_,rfl⟩
  have hPl:P≤L.length:=by rw[hP];exact(List.takeWhile_sublist _).length_le
  rw[←hP]
  refine Z6 [1,2,5,6,7,10] (fun T' H' n'=>N (i+1)=L.take P++[r]++L.drop P∧T'=tl [(1,.sl 2 (l.map Zg)),(2,.loc n 0 0 0 []),(5,.sl 2 (L.map Zg)),(6,.int .i64 i),(7,.loc p 0 0 0 []),(10,.int .i64 P)]∧H'=H8∧n'=n8) ?_ ?_
  ·rcases Nat.lt_or_ge P L.length with h16 | h16
   ·have hntl:nth (L.map Zg) P=Zg (L.getD P default):=Zw Zg L P h16
    have hd16:decide ((P:Int)<(L.length:Int))=true:=decide_eq_true om
    refine Xe rfl zs [1,2,5,6,7,10,115] [.m,.m,.q,.q,.m,.m,.m,.q,.q,.q,.q,.q,.c,.q] [0,1,2,3,4,5,6,7,8,9,10,11,12,13] [0,1,2,3,4,5,6,7,8,9,10,11,12,13] (by kernel_rfl) (fun _ _ _ _ _ h=>h) fun K J=> ?_
    try simp only[go_sem,seval,hszs,hags,hmos,hszr,hagr,hmor,hszc,hagc,hmoc,b1,b2,b3,hnth,hntc,hntl,e1,e2,e3,g1,g2,g3,g4,g5,g6,Nat.add_assoc,List.length_map,Int.toNat_natCast,Zt,Zg,hntl,hd16]
    repeat refine peel ?_
    refine ZL func26 rfl rfl rfl (fun _ n=>(Qd (L.getD P default).row r.row _ _)) ?_
    try simp only[go_sem,seval,hszs,hags,hmos,hszr,hagr,hmor,hszc,hagc,hmoc,b1,b2,b3,hnth,hntc,hntl,e1,e2,e3,g1,g2,g3,g4,g5,g6,Nat.add_assoc,List.length_map,Int.toNat_natCast,Zt,Zg,hntl,hd16]
    repeat refine peel ?_
    apply J;clear J K
    refine Zb ?_ ?_<;>intro hb
    ·have hNs2:N (i+1)=L:=by rw[hNs1];unfold putN;rw[←hP,if_pos ⟨h16,osb⟩]
     refine ax ?_
     apply hK3
     refine rg1 zs [1,2,5,6] ?_
     refine⟨⟨i+1,?_⟩,om⟩
     (repeat' apply And.intro)<;>first | omega | rfl | (rw[hNs1];done) | (rw[hNs2];done) | ((try simp only[Pv]);(repeat first | rw[if_pos rfl] | rw[if_pos trivial] | rw[if_neg om]);first | done | exact b1 | exact hlow) | (intro k hk;refine ohx ?_;exact hlow k hk)
    have hNs2:N (i+1)=L.take P++[r]++L.drop P:=by rw[hNs1];unfold putN;rw[←hP,if_neg (fun h=>by have h8:=hb;rw[h.2]at h8;simp at h8)]
    refine ak ?_
    refine ns ?_
    exact hNs2
   ·have hntl:nth (L.map Zg) P= .junk:=by simp[nth,List.getD,h16]
    have hd16:decide ((P:Int)<(L.length:Int))=false:=decide_eq_false om
    refine Xe rfl zs [1,2,5,6,7,10,115] [.m,.m,.q,.q,.m,.m,.m,.q,.q,.q,.q,.q,.c,.q] [0,1,2,3,4,5,6,7,8,9,10,11,12,13] [0,1,2,3,4,5,6,7,8,9,10,11,12,13] (by kernel_rfl) (fun _ _ _ _ _ h=>h) fun K J=> ?_
    try simp only[go_sem,seval,hszs,hags,hmos,hszr,hagr,hmor,hszc,hagc,hmoc,b1,b2,b3,hnth,hntc,hntl,e1,e2,e3,g1,g2,g3,g4,g5,g6,Nat.add_assoc,List.length_map,Int.toNat_natCast,Zt,Zg,hntl,hd16]
    repeat refine peel ?_
    refine ZL (r:= .bool false) func26 rfl rfl rfl (fun hg=>absurd hg osi) ?_
    try simp only[go_sem,seval,hszs,hags,hmos,hszr,hagr,hmor,hszc,hagc,hmoc,b1,b2,b3,hnth,hntc,hntl,e1,e2,e3,g1,g2,g3,g4,g5,g6,Nat.add_assoc,List.length_map,Int.toNat_natCast,Zt,Zg,hntl,hd16]
    repeat refine peel ?_
    apply J;clear J K
    refine Zb ?_ ?_<;>intro hb
    ·exact absurd hb osi
    have hNs2:N (i+1)=L.take P++[r]++L.drop P:=by rw[hNs1];unfold putN;rw[←hP,if_neg (fun h=>om)]
    refine ak ?_
    refine ns ?_
    exact hNs2
  rintro T8 H8 n8 ⟨hNs2,rfl,rfl,rfl⟩
  refine rg zs [1,2,5,6,7,10,11] ?_
  have g5:(p=n8)=False:=oz
  have hst:strip true (Zg r)=Zg r:=rfl
  have e2:min P L.length=P:=Nat.min_eq_left hPl
  refine ZX 11 2 rfl ?_
  refine ns ?_
  refine Ze zs [1,2,5,6,7,10,11] fun K J=> ?_
  try simp only[go_sem,seval,hszs,hags,hmos,hszr,hagr,hmor,hszc,hagc,hmoc,b1,b2,b3,hnth,hntc,hntl,e1,e2,e3,g1,g2,g3,g4,g5,g6,Nat.add_assoc,List.length_map,Int.toNat_natCast,Zt,Option.getD_some,Option.getD_none,Int.toNat_zero,List.drop_zero,←List.map_take,←List.map_drop,List.length_take,List.length_drop]
  repeat (first | (refine And.intro ?_ ?_;· first | exact⟨.inr trivial,om,om⟩) | refine peel ?_)
  apply J;clear J K
  refine Ze zs [1,2,5,6,10,11] fun K J=> ?_
  try simp only[go_sem,seval,hszs,hags,hmos,hszr,hagr,hmor,hszc,hagc,hmoc,b1,b2,b3,hnth,hntc,hntl,e1,e2,e3,g1,g2,g3,g4,g5,g6,Nat.add_assoc,List.length_map,Int.toNat_natCast,Zt,hst,List.take_take,Option.getD_some,Option.getD_none,Int.toNat_zero,List.drop_zero,←List.map_take,←List.map_drop,List.length_take,List.length_drop]
  repeat (first | (refine And.intro ?_ ?_;· first | exact⟨Nat.le_refl _,.inr trivial,om,om⟩ | exact⟨rfl,fun x hx=>by rw[List.mem_singleton.1 hx];exact⟨hszr r,hmor r⟩⟩) | refine peel ?_)
  apply J;clear J K
  refine ZJ zs [1,2,5,6] fun K J=> ?_
  try simp only[go_sem,seval,hszs,hags,hmos,hszr,hagr,hmor,hszc,hagc,hmoc,b1,b2,b3,hnth,hntc,hntl,e1,e2,e3,g1,g2,g3,g4,g5,g6,Nat.add_assoc,List.length_map,Int.toNat_natCast,Zt,hst,List.take_take,Option.getD_some,Option.getD_none,Int.toNat_zero,List.drop_zero,←List.map_take,←List.map_drop,List.length_take,List.length_drop]
  repeat (first | (refine And.intro ?_ ?_;· first | exact⟨by(simp only[List.length_append,List.length_map,List.length_take,List.length_cons,List.length_nil];omega),.inr trivial,om,om⟩) | refine peel ?_)
  apply J;clear J K
  refine ns ?_
  apply hK3
  first
  | (have hE : List.take (P + 1) (List.map Zg (List.take (min P P) L) ++ [Zg r]) ++ List.map Zg (List.drop P (List.take L.length L)) = (N (i + 1)).map Zg := by rw [hNs2, Nat.min_self, List.take_length, List.take_of_length_le (by simp only [List.length_append, List.length_map, List.length_take, List.length_cons, List.length_nil]; omega), List.map_append, List.map_append]; rfl
     have hLn:P+(1+(min L.length L.length-P))=(N (i+1)).length:=by rw[hNs2];simp only[List.length_append,List.length_take,List.length_drop,List.length_cons,List.length_nil];omega
     rw[hE,hLn]
     refine VX 5 n8 (Px _ _ _) (fz_rows (N (i+1))) ?_
     refine Yl [1,2,5,6] ?_
     refine ns ?_)
  refine rg1 zs [1,2,5,6] ?_
  refine⟨⟨i+1,?_⟩,om⟩
  (repeat' apply And.intro)<;>first | omega | rfl | (rw[hNs1];done) | (rw[hNs2];done) | ((try simp only[Pv]);(repeat first | rw[if_pos rfl] | rw[if_pos trivial] | rw[if_neg om]);first | done | exact b1 | exact hlow) | (intro k hk;refine ohx ?_;exact hlow k hk)
 have hci:N i=Wn fs.length l:=by
   rw[hN]
   unfold Wn
   have h9:i=l.length∨i=40:=by
     rcases Nat.lt_or_ge i l.length with h7 | h7
     ·rcases Nat.lt_or_ge i 40 with h8 | h8
      ·rw[decide_eq_true (show(i:Int)<(l.length:Int) by omega),decide_eq_true (show(i:Int)<40 by omega)]at hb;exact absurd hb odc
      ·exact .inr om
     ·exact .inl om
   show JD _ (l.take i)=JD _ (l.take 40)
   rcases h9 with h9 | h9
   ·rw[List.take_of_length_le om,List.take_of_length_le om]
   ·rw[h9]
 refine ax ?_
 apply hK1
 refine rg zs [4] ?_
 refine ar ?_
 rw[hci]
 exact⟨_,rfl,hlow,.kl (Wo Zg (fun r=>kl_row r _) _)⟩
def hasC (r:RowE):Bool:=decide (0<r.cells.length)
def Xv (l:List RowE):List RowE:=(l.filter hasC).take 2
theorem firstE_snoc {l:List RowE} {i:Nat} (h:i<l.length) (h2:(Xv (l.take i)).length<2):Xv (l.take (i+1))=Xv (l.take i)++if hasC (l.getD i default)then[l.getD i default]else[]:=by
 unfold Xv at*
 have e:(l.take (i+1)).filter hasC=(l.take i).filter hasC++if hasC (l.getD i default)then[l.getD i default]else[]:=by
   rw[List.take_succ_eq_append_getElem h,List.filter_append]
   have:l.getD i default=l[i]:=by simp[List.getD,List.getElem?_eq_getElem h]
   rw[this]
   congr 1
   by_cases hc:hasC l[i]=true<;>simp[hc]
 rw[List.length_take]at h2
 rw[e,List.take_append,List.take_of_length_le (by omega:((l.take i).filter hasC).length≤2)]
 congr 1
 apply List.take_of_length_le
 split<;>simp<;>omega
theorem firstE_len (l:List RowE):(Xv l).length≤2:=by unfold Xv;rw[List.length_take];omega
theorem firstE_end {l:List RowE} {i:Nat} (h:(Xv (l.take i)).length=2):Xv (l.take i)=Xv l:=by
 unfold Xv at*
 rw[List.length_take]at h
 conv=>rhs;rw[←List.take_append_drop i l,List.filter_append,List.take_append_of_le_length om]
theorem NVa0.eqs {P Q:Prop} (g:Imp P Q:=by(try simp only[go_sem,seval,hszq,hagq,hmoq,hszr,hagr,hmor,b1,hnth,e1,Nat.add_assoc,List.length_map,Int.toNat_natCast]);exact Imp.rf):Imp P Q:=g
theorem NVa0.inz {P Q:Prop} (g:Imp P Q:=by refine Imp.up eqs ?_;(repeat (first | (refine Imp.nd ?_ ?_;· first | exact⟨rfl,fun y hy=>by rw[List.mem_singleton.1 hy];exact⟨hszr x,hmor x⟩⟩ | exact⟨Nat.le_refl _,.inr trivial,by omega,by omega⟩) | refine Imp.pl ?_));exact Imp.rf):Imp P Q:=g
open NVa0 in
theorem c_law13_first (q:QryE) (l:List RowE) (hl:YG l) (H:Heap) (n:Nat):Ret prog 49 [Zf q,.sl 2 (l.map Zg)] H n (.sl 2 ((Xv l).map Zg)) H n:=by
 have hszq:(Zf q).sz=10:=Z9 q
 have hagq:(Zf q).isAgg=true:=rfl
 have hmoq:(Zf q).memOK=true:=rfl
 have hszr:∀r,(Zg r).sz=2:=VE
 have hagr:∀r,(Zg r).isAgg=true:=fun _=>rfl
 have hmor:∀r,(Zg r).memOK=true:=fun _=>rfl
 have hls:=hl.1
 obtain⟨F,hF⟩:∃F:Nat→List RowE,F=fun i=>Xv (l.take i):=⟨_,rfl⟩
 have hFl:∀i,(F i).length≤2:=fun i=>by rw[hF];exact firstE_len _
 have b1:=hls
 have hnth:=hls
 have e1:=hls
 refine Ret.fin ?_
 refine fw func49 ntmps49 results49 ?_
 refine rg zs [1] ?_
 refine rg zs [1,5] ?_
 refine Za fun K1 hK1=> ?_
 refine rg zs [1,5,6] ?_
 refine Zq ?_
 refine ZX 5 2 rfl ?_
 refine Yl [1,5,6] ?_
 refine ns ?_
 refine Zo (fun T' H' n'=>∃i ver:Nat,i≤l.length∧T'=tl [(1,.sl 2 (l.map Zg)),(5,.osl (n+1) ver 0 (F i).length),(6,.int .i64 i)]∧H' (n+1)=some (.arr ver 2 ((F i).map Zg))∧(∀k,k<n→H' k=H k)∧n+2≤n') (fun T' _ _=>l.length-iv (T' 6)) ?_ ?_
 ·exact⟨0,0,Nat.zero_le _,by rw[hF];rfl,by rw[hF];first | ((try simp only[Pv]);(repeat first | rw[if_pos rfl] | rw[if_pos trivial] | rw[if_neg (by omega)]);done) | ((try simp only[Pv]);(repeat first | rw[if_pos rfl] | rw[if_pos trivial] | rw[if_neg (by omega)]);rfl),fun k hk=>by(try simp only[Pv]);(repeat first | rw[if_pos rfl] | rw[if_pos trivial] | rw[if_neg (by omega)]),by omega⟩
 rintro T1 H1 n1 ⟨i,ver,hi,rfl,b1,hlow,hn1⟩
 refine Za fun K2 hK2=> ?_
 refine rg zs [1,5,6,15] ?_
 refine Zb ?_ ?_<;>intro hb
 ·have hc2:=WX hb
  have hci:i<l.length:=by have:=of_decide_eq_true hc2.1;omega
  have hcj:(F i).length<2:=by have:=of_decide_eq_true hc2.2;omega
  have hnth:nth (l.map Zg) i=Zg (l.getD i default):=Zw Zg l i hci
  have e1:IntKind.i64.wrap ((i:Int)+1)=((i+1:Nat):Int):=w1 (by omega)
  have hFs:F (i+1)=F i++if hasC (l.getD i default)then[l.getD i default]else[]:=by rw[hF]at hcj ⊢;exact firstE_snoc hci hcj
  generalize l.getD i default=x at*
  refine ak ?_
  apply hK2
  refine bk fun K3 hK3=> ?_
  refine Ze zs [1,5,6,24] fun K V=> ?_
  try simp only[go_sem,seval,hszq,hagq,hmoq,hszr,hagr,hmor,b1,hnth,e1,Nat.add_assoc,List.length_map,Int.toNat_natCast,Zg]
  repeat refine peel ?_
  apply V;clear V K
  refine Zb ?_ ?_<;>intro hb
  ·have hx:hasC x=true:=decide_eq_true (by have:=of_decide_eq_true hb;omega)
   rw[if_pos hx]at hFs
   refine rg1 zs [1,5,6] ?_
   apply hK3
   refine rg1 zs [1,5,6] ?_
   exact⟨⟨i+1,ver+1,by omega,by rw[hFs,List.length_append];rfl,by rw[hFs,List.take_of_length_le (by simp),List.map_append];rfl,fun k hk=>by(try simp only[Pv]);(repeat first | rw[if_pos rfl] | rw[if_pos trivial] | rw[if_neg (by omega)]);exact hlow k hk,by omega⟩,by omega⟩
  have hx:¬hasC x=true:=fun h=>by have:=of_decide_eq_false hb;have:=of_decide_eq_true h;omega
  rw[if_neg hx,List.append_nil]at hFs
  refine ak ?_
  apply hK3
  refine rg1 zs [1,5,6] ?_
  exact⟨⟨i+1,ver,by omega,by rw[hFs],by rw[hFs],hlow,hn1⟩,by omega⟩
 have hE:F i=Xv l:=by
   have h9:i=l.length∨(F i).length=2:=by
     have:=hFl i
     rcases Nat.lt_or_ge i l.length with h7 | h7
     ·rcases Nat.lt_or_ge (F i).length 2 with h8 | h8
      ·rw[decide_eq_true (show(i:Int)<(l.length:Int) by omega),decide_eq_true (show((F i).length:Int)<2 by omega)]at hb;exact absurd hb (by decide)
      ·exact .inr (by omega)
     ·exact .inl (by omega)
   rcases h9 with h9 | h9
   ·rw[hF,h9];show Xv (l.take l.length)=_;rw[List.take_length]
   ·rw[hF]at h9 ⊢;exact firstE_end h9
 refine ax ?_
 apply hK1
 refine VX 5 (n+1) b1 (fz_rows (F i)) ?_
 refine rg zs [4] ?_
 refine ar ?_
 rw[hE];exact⟨_,rfl,fun k hk=>by(try simp only[Pv]);(repeat first | rw[if_pos rfl] | rw[if_pos trivial] | rw[if_neg (by omega)]);exact hlow k hk,.kl (Wo Zg (fun x=>kl_rowAV x _) _)⟩
end Go.Proofs.YtkmkbndcekklmaaGreatDoor
set_option maxRecDepth 10000
namespace Go.Proofs.YtkmkbndcekklmaaGreatDoor
open Go Go.Sx Go.Rt Go.Proofs
theorem pos_split (l:List RowE) (r:List UInt8):∃W D,l=W++D∧l.take (posN l r)=W∧l.drop (posN l r)=D∧posN l r=W.length∧(∀y∈W,Lib.compareBytes y.row r<0)∧(∀d ds,D=d::ds→¬Lib.compareBytes d.row r<0):=by
 obtain⟨W,hW⟩:∃W,W=l.takeWhile fun y=>decide (Lib.compareBytes y.row r<0):=⟨_,rfl⟩
 obtain⟨D,hD⟩:∃D,D=l.dropWhile fun y=>decide (Lib.compareBytes y.row r<0):=⟨_,rfl⟩
 have e:l=W++D:=by rw[hW,hD,List.takeWhile_append_dropWhile]
 have hp:posN l r=W.length:=by rw[hW];rfl
 refine ⟨W, D, e, by rw [hp]; conv => lhs; rw [e]
                     exact List.take_left, by rw [hp]; conv => lhs; rw [e]
                                              exact List.drop_left,hp,fun y hy=> ?_,fun d ds hd=> ?_⟩
 ·rw[hW]at hy
  have:∀(l:List RowE),y∈l.takeWhile (fun y=>decide (Lib.compareBytes y.row r<0))→Lib.compareBytes y.row r<0:=fun l=>by
    induction l with
    | nil=>intro h;simp at h
    | cons a l ih=>
      intro h
      rw[List.takeWhile_cons]at h
      split at h
      ·rename_i ha
       rcases List.mem_cons.1 h with rfl | h
       ·simpa using ha
       ·exact ih h
      ·simp at h
  exact this l hy
 ·rw[hd]at hD
  have:∀(l:List RowE),d::ds=l.dropWhile (fun y=>decide (Lib.compareBytes y.row r<0))→¬Lib.compareBytes d.row r<0:=fun l=>by
    induction l with
    | nil=>intro h;simp at h
    | cons a l ih=>
      intro h
      rw[List.dropWhile_cons]at h
      split at h
      ·exact ih h
      ·rename_i ha
       cases h
       simpa using ha
  exact this l hD
theorem putN_up {l:List RowE} {r:RowE} (h:upL l):upL (putN l r):=by
 obtain⟨W,D,e,e1,e2,e3,hW,hD⟩:=pos_split l r.row
 unfold putN
 split
 ·exact h
 rename_i hn
 rw[e1,e2]
 unfold upL at h ⊢
 rw[e,List.pairwise_append]at h
 obtain⟨h1,h2,h3⟩:=h
 have hr:∀d∈D,Lib.compareBytes r.row d.row<0:=by
   cases D with
   | nil=>intro d hd;cases hd
   | cons d ds=>
     have hd:=hD d ds rfl
     have hne:d.row≠r.row:=fun e9=>hn ⟨by rw[e3,e];simp,by rw[e3,e];simp[List.getD,e9]⟩
     have h0:Lib.compareBytes r.row d.row<0:=by
       have a1:=U7 d.row r.row
       have a2:=Js r.row d.row
       have:Lib.compareBytes d.row r.row≠0:=fun h=>hne (a1.1 h)
       exact a2.2 om
     intro y hy
     rcases List.mem_cons.1 hy with rfl | hy
     ·exact h0
     ·exact QP h0 (by have:=(List.pairwise_cons.1 h2).1 y hy;omega)
 rw[List.append_assoc,List.pairwise_append]
 refine⟨h1,List.pairwise_cons.2 ⟨hr,h2⟩,fun a ha b hb=> ?_⟩
 rcases List.mem_cons.1 hb with rfl | hb
 ·exact hW a ha
 ·exact h3 a ha b hb
theorem mem_putN {l:List RowE} {r y:RowE} (h:y∈putN l r):y=r∨y∈l:=by
 unfold putN at h
 split at h
 ·exact .inr h
 ·rw[List.append_assoc,List.mem_append,List.singleton_append,List.mem_cons]at h
  rcases h with h | h | h
  ·exact .inr (List.mem_of_mem_take h)
  ·exact .inl h
  ·exact .inr (List.mem_of_mem_drop h)
theorem trim_good {nf:Nat} {x:RowE} (h:¬(x.row.length<1∨256<x.row.length)):Vn nf (MN nf x):=by
 refine⟨by show x.row.length≠0;omega,by show x.row.length≤256;omega,?_⟩
 unfold Ws MN
 rw[List.any_eq_false]
 intro c hc
 have:=(List.mem_filter.1 hc).2
 unfold Vg at this
 simp only[Bool.and_eq_true,decide_eq_true_eq]at this
 unfold bout
 simp
 omega
theorem Jq (nf:Nat) (P:RowE→Prop):∀(m l:List RowE),upL l→(∀x∈l,Vn nf x∧P x)→(∀x∈m,P (MN nf x))→upL (m.foldl (VB nf) l)∧∀x∈m.foldl (VB nf) l,Vn nf x∧P x
 | [],l,h1,h2,_=>⟨h1,h2⟩
 | x::m,l,h1,h2,h3=>by
   rw[List.foldl_cons]
   refine Jq nf P m _ ?_ ?_ fun y hy=>h3 y (by simp[hy])
   ·unfold VB;split
    ·exact h1
    ·exact putN_up h1
   ·unfold VB;split
    ·exact h2
    ·rename_i hx
     intro y hy
     rcases mem_putN hy with rfl | hy
     ·exact⟨trim_good hx,h3 x osi⟩
     ·exact h2 y hy
theorem neatE_up (nf:Nat) (l:List RowE):upL (Wn nf l):=(Jq nf (fun _=>True) _ [] List.Pairwise.nil (fun x hx=>by cases hx) fun _ _=>trivial).1
theorem neatE_good (nf:Nat) (l:List RowE):∀x∈Wn nf l,Vn nf x:=fun x hx=>((Jq nf (fun _=>True) _ [] List.Pairwise.nil (fun x hx=>by cases hx) fun _ _=>trivial).2 x hx).1
theorem neatE_len (nf:Nat) (l:List RowE):(Wn nf l).length≤40:=Nat.le_trans (neatF_len _ _) (by rw[List.length_take];omega)
theorem neatE_ok {nf:Nat} {l:List RowE} (h:YG l):YG (Wn nf l):=by
 refine⟨by have:=neatE_len nf l;omega,fun x hx=> ?_⟩
 have:=((Jq nf (fun x=>x.row.length≤1099511627776∧x.cells.length≤1048576∧∀c∈x.cells,c.qual.length≤1099511627776∧c.value.length≤1099511627776) (l.take 40) [] List.Pairwise.nil (fun x hx=>by cases hx) fun x hx=>by
   obtain⟨a,b,c⟩:=h.2 x (List.mem_of_mem_take hx)
   exact⟨a,Nat.le_trans (List.length_filter_le _ _) b,fun d hd=>c d (List.mem_filter.1 hd).1⟩).2 x hx).2
 exact this
def atZ (q:QryE):Int:=if q.time≠0 then q.time else 5
def Ub (q:QryE) (V:List RowE) (j:Nat):List UInt8:=if j=0 then[]else tokB q (atZ q) (V.getD (j-1) default).row
def qAt (q:QryE) (V:List RowE) (j:Nat) (m:Int):QryE:={q with token:=Ub q V j,rows:=m}
structure XJ (fs:List Fml) (q:QryE) (l V:List RowE):Prop where
 fine:q.fine
 good:qcE fs q=0
 tok:q.token=[]
 up:upL l
 rows:∀x∈l,Vn fs.length x
 all:V=allV q (YE fs q) l
section
variable {fs:List Fml} {q:QryE} {l V:List RowE}
theorem XJ.mem (h:XJ fs q l V) {y:RowE} (hy:y∈V):YU q y.row=true∧y.row.length≠0∧y.row.length≤256:=by
 rw[h.all]at hy
 unfold allV visL at hy
 obtain⟨x,hx,rfl⟩:=List.mem_map.1 hy
 obtain⟨h1,h2⟩:=List.mem_filter.1 hx
 have hg:=h.rows x (QN.1 h1)
 unfold visB at h2
 simp only[Bool.and_eq_true]at h2
 exact⟨h2.1,hg.1,hg.2.1⟩
theorem XJ.len (h:XJ fs q l V):V.length≤l.length:=by
 rw[h.all]
 unfold allV visL
 rw[List.length_map]
 refine Nat.le_trans (List.length_filter_le _ _) ?_
 unfold dirL;split<;>simp
theorem XJ.time (h:XJ fs q l V):0≤q.time∧q.time≤1099511627776:=by
 have:=(Lb h.good).2.1
 unfold Ym VN at this
 simp only[Bool.and_eq_true,decide_eq_true_eq]at this
 exact⟨this.2.1.1.1.1.1.2,this.2.1.1.1.1.2⟩
theorem atZ_in (h:XJ fs q l V):1≤atZ q∧atZ q≤1099511627776∧(q.time=0∨q.time=atZ q):=by
 have:=h.time
 unfold atZ
 split
 ·exact⟨om,om,.inr rfl⟩
 ·exact⟨om,om,.inl om⟩
theorem pgTok_len (h:XJ fs q l V) (j:Nat) (hj:j≤V.length):(Ub q V j).length≤300:=by
 unfold Ub
 split
 ·exact Nat.zero_le _
 ·rename_i h0
  refine tokB_len _ _ _ (h.mem ?_).2.2
  exact YI V om
theorem XJ.read (h:XJ fs q l V) {j:Nat} (hj:j≤V.length) (m:Int):ZP (qAt q V j m)=if j=0 then(0,[],0)else(atZ q,(V.getD (j-1) default).row,0):=by
 by_cases h0:j=0
 ·rw[if_pos h0];exact Ji (by unfold qAt Ub;rw[if_pos h0])
 ·rw[if_neg h0]
  obtain⟨a1,a2,a3⟩:=atZ_in h
  have hm:V.getD (j-1) default∈V:=YI V om
  obtain⟨m1,m2,m3⟩:=h.mem hm
  exact readQ_tok (q:=qAt q V j m) (by unfold qAt Ub;rw[if_neg h0];rfl) a1 a2 a3 m2 m3 m1
theorem XJ.check (h:XJ fs q l V) {j:Nat} (hj:j≤V.length) {m:Int} (m1:1≤m) (m2:m≤1000):qcE fs (qAt q V j m)=0:=by
 have hp:=Lb h.good
 have hf:Ym fs.length (qAt q V j m)=true:=by
   have h2:=hp.2.1
   unfold Ym VN at h2 ⊢
   unfold qAt
   simp only[Bool.and_eq_true,decide_eq_true_eq]at h2 ⊢
   exact⟨⟨h2.1.1,h2.1.2⟩,⟨h2.2.1.1,m1⟩,m2⟩
 rw[qcE_of hp.1 hf hp.2.2.1,h.read hj]
 split<;>rfl
theorem XJ.left (h:XJ fs q l V) {j:Nat} (hj:j≤V.length) (m:Int):visL (qAt q V j m) (YE fs (qAt q V j m)) (Wq (qAt q V j m) l)=V.drop j:=by
 have ht:YE fs (qAt q V j m)=YE fs q:=rfl
 have ha:allV (qAt q V j m) (YE fs q) l=V:=h.all.symm
 rw[ht]
 by_cases h0:j=0
 ·rw[from_none (by unfold qAt Ub;rw[if_pos h0]),ha,h0];rfl
 ·have hr:=h.read hj m
  rw[if_neg h0]at hr
  have hl:j-1<(allV (qAt q V j m) (YE fs q) l).length:=by rw[ha];omega
  have hrow:(V.getD (j-1) default).row=((allV (qAt q V j m) (YE fs q) l)[j-1]).row:=by
    have e:(allV (qAt q V j m) (YE fs q) l)[j-1]=(allV (qAt q V j m) (YE fs q) l).getD (j-1) default:=by simp[List.getD,hl]
    rw[e,ha]
  rw[hrow]at hr
  have:=from_at h.up hl hr (atZ_in h).1
  rw[this,ha,show j-1+1=j by omega]
theorem XJ.at (h:XJ fs q l V) {j:Nat} (hj:j≤V.length) (m:Int) {c:Int} (c1:1≤c) (c2:c≤1099511627776) (hc:j=0→c=5∨q.time≠0):atE (qAt q V j m) c=(atZ q,0):=by
 have hr:=h.read hj m
 obtain⟨a1,a2,a3⟩:=atZ_in h
 unfold atE
 rw[if_neg om,hr]
 by_cases h0:j=0
 ·rw[if_pos h0]
  simp only
  rw[if_neg osi,if_neg osi]
  show(if q.time≠0 then(q.time,(0:Int))else(c,0))=_
  unfold atZ
  by_cases ht:q.time=0
  ·rw[if_neg (by simp[ht]),if_neg (by simp[ht])]
   rcases hc h0 with h5 | h5
   ·rw[h5]
   ·exact absurd ht h5
  ·rw[if_pos ht,if_pos ht]
 ·rw[if_neg h0]
  simp only
  rw[if_neg osi,if_pos om]
def pgAt (q:QryE) (V:List RowE) (j:Nat) (m:Int):PgE:=if ((V.drop j).length:Int)<m then⟨V.drop j,[],true⟩else⟨(V.drop j).take m.toNat,Ub q V (j+m.toNat),false⟩
theorem XJ.page (h : XJ fs q l V) {j : Nat} (hj : j ≤ V.length) {m : Int} (m1 : 1 ≤ m) (m2 : m ≤ 1000) {c : Int} (c1 : 1 ≤ c) (c2 : c ≤ 1099511627776) (hc : j = 0 → c = 5 ∨ q.time ≠ 0) :
   (runE fs (qAt q V j m) c (some (Wq (qAt q V j m) l,0))).2.2=0∧(runE fs (qAt q V j m) c (some (Wq (qAt q V j m) l,0))).1=pgAt q V j m:=by
 obtain⟨m',hm'⟩:=run_from (h.check hj m1 m2) ⟨c1,c2⟩ h.up h.rows
 rw[hm']
 refine⟨rfl,?_⟩
 rw[h.left hj,h.at hj m c1 c2 hc]
 show JR (qAt q V j m) (tokB (qAt q V j m) (atZ q)) (V.drop j)=_
 unfold JR pgAt
 have e:(qAt q V j m).rows=m:=rfl
 rw[e]
 split
 ·rfl
 ·rename_i hn
  congr 1
  unfold Ub
  rw[if_neg om]
  have hi:j+m.toNat-1<V.length:=by rw[List.length_drop]at hn;omega
  show tokB q (atZ q) ((V.drop j).getD (m.toNat-1) default).row=_
  rw[show(V.drop j).getD (m.toNat-1) default=V.getD (j+m.toNat-1) default by simp[List.getD,List.getElem?_drop];rw[show j+(m.toNat-1)=j+m.toNat-1 by omega]]
theorem XJ.fineAt (h:XJ fs q l V) {j:Nat} (hj:j≤V.length) (m:Int):(qAt q V j m).fine:=⟨h.fine.frm,h.fine.to,h.fine.fams,h.fine.pre,h.fine.whr,by have:=pgTok_len h j hj;show(Ub q V j).length≤_;omega⟩
end
end Go.Proofs.YtkmkbndcekklmaaGreatDoor
set_option maxRecDepth 10000
namespace Go.Proofs.YtkmkbndcekklmaaGreatDoor
open Go Go.Sx Go.Rt Go.Proofs Tryz
theorem NU10.eqs {P Q:Prop} (g:Imp P Q:=by(try simp only[go_sem,seval,hszs,hags,hmos,hnum,hnua,hnum2,hszq,hagq,hmoq,hszp,hagp,hmop,f1,f2,f3,f4,f5,f6,b1,b2,b3,b4,g1,g2,g3,g4,g5,e1,e2,Nat.add_assoc,List.length_map,Int.toNat_natCast]);exact Imp.rf):Imp P Q:=g
theorem NU10.inz {P Q:Prop} (g:Imp P Q:=by refine Imp.up eqs ?_;(repeat (first | (refine Imp.nd ?_ ?_;· first | (intros;simp_all;done)) | refine Imp.pl ?_));exact Imp.rf):Imp P Q:=g
theorem rowsOK_app {a b:List RowE} (ha:YG a) (hb:YG b) (h:a.length+b.length≤1048576):YG (a++b):=
 ⟨by rw[List.length_append];exact h,fun x hx=>by rcases List.mem_append.1 hx with h | h;exact ha.2 x h;exact hb.2 x h⟩
theorem NU20.eqs {P Q:Prop} (g:Imp P Q:=by(try simp only[go_sem,seval,c1,c2,hszs,hags,hmos,hnum,hnua,hnum2,hszq,hagq,hmoq,f1,f2,f3,f4,f5,f6,b1,b2,g1,g2,Nat.add_assoc,List.length_map,Int.toNat_natCast]);exact Imp.rf):Imp P Q:=g
theorem NU30.eqs {P Q:Prop} (g:Imp P Q:=by(try simp only[go_sem,seval,c1,c2,hszs,hags,hmos,hnum,hnua,hnum2,hszq,hagq,hmoq,f1,f2,f3,f4,f5,f6,b1,b2,g1,g2,Nat.add_assoc,List.length_map,Int.toNat_natCast]);exact Imp.rf):Imp P Q:=g
end Go.Proofs.YtkmkbndcekklmaaGreatDoor
set_option maxRecDepth 10000
namespace Go.Proofs.YtkmkbndcekklmaaGreatDoor
open Go Go.Sx Go.Rt Go.Proofs
theorem putN_keep {l:List RowE} {r y:RowE} (h:y∈l):y∈putN l r:=by
 unfold putN
 split
 ·exact h
 ·rw[List.append_assoc,List.mem_append,List.singleton_append,List.mem_cons]
  rw[←List.take_append_drop (posN l r.row) l,List.mem_append]at h
  rcases h with h | h
  ·exact .inl h
  ·exact .inr (.inr h)
theorem NE (nf:Nat):∀(m l:List RowE) {y:RowE},y∈l→y∈m.foldl (VB nf) l
 | [],l,y,h=>h
 | x::m,l,y,h=>by
   rw[List.foldl_cons]
   refine NE nf m _ ?_
   unfold VB;split
   ·exact h
   ·exact putN_keep h
theorem neatE_keep (nf:Nat) (l m:List RowE) {y:RowE} (h:y∈Wn nf l):y∈Wn nf (l++m):=by
 unfold Wn JD at*
 rw[List.take_append,List.foldl_append]
 exact NE nf _ _ h
def behind (rev:Bool) (A:List RowE) (y:RowE):Prop:=∀a∈A,dirB rev a.row y.row
instance (rev:Bool) (A:List RowE) (y:RowE):Decidable (behind rev A y):=by unfold behind;infer_instance
def remV (rev:Bool) (A V:List RowE):List RowE:=V.filter fun y=>decide (behind rev A y)
structure MvS (q:QryE) (V A:List RowE):Prop where
 up:A.Pairwise fun a b=>dirB q.rev a.row b.row
 ok:∀y∈A,YU q y.row=true∧y.row.length≠0∧y.row.length≤256
 cov:∀y∈V,(∃a∈A,a.row=y.row)∨behind q.rev A y
theorem MvS.nil (q:QryE) (V:List RowE):MvS q V []:=⟨List.Pairwise.nil,(fun y h=>by cases h),fun y _=> .inr (fun a h=>by cases h)⟩
section
variable {fs:List Fml} {q:QryE} {l V A:List RowE}
end
end Go.Proofs.YtkmkbndcekklmaaGreatDoor
set_option maxRecDepth 10000
namespace Go.Proofs.YtkmkbndcekklmaaGreatDoor
open Go Go.Sx Go.Rt Go.Proofs Tryz
structure MvI (q:QryE) (V A:List RowE) (i:Nat) (dn:Bool):Prop where
 st:MvS q V A
 all:dn=true→∀w∈V,∃a∈A,a.row=w.row
 few:dn=false→i≤40∨(remV q.rev A V).length+i≤80
 len:A.length≤i
theorem NU50.eqs {P Q:Prop} (g:Imp P Q:=by(try simp only[go_sem,seval,c1,c2,hszs,hags,hmos,hnum,hnua,hnum2,hszq,hagq,hmoq,hszp,hagp,hmop,f1,f2,f3,f4,f5,f6,b1,b2,b3,b4,b5,g1,g2,g3,g4,g5,g6,e1,e2,Nat.add_assoc,List.length_map,Int.toNat_natCast]);exact Imp.rf):Imp P Q:=g
end Go.Proofs.YtkmkbndcekklmaaGreatDoor
set_option maxRecDepth 10000
namespace Go.Proofs.YtkmkbndcekklmaaGreatDoor
open Go Go.Sx Go.Rt Go.Proofs
def qOwn (q:QryE):QryE:={qTok q with rows:=2}
theorem Y4 (q:QryE):(qOwn q).fine:=⟨Nat.zero_le _,Nat.zero_le _,Nat.zero_le _,Nat.zero_le _,Nat.zero_le _,(qTok_fine q).token⟩
theorem three_le {α:Type} {l:List α} {a b c:α} (ha:a∈l) (hb:b∈l) (hc:c∈l) (h1:a≠b) (h2:a≠c) (h3:b≠c):3≤l.length:=by
 match l,ha,hb,hc with
 | [],ha,_,_=>cases ha
 | [x],ha,hb,_=>simp at ha hb;exact absurd (ha.trans hb.symm) h1
 | [x,y],ha,hb,hc=>
   simp at ha hb hc
   rcases ha with rfl | rfl<;>rcases hb with rfl | rfl<;>rcases hc with rfl | rfl<;>simp_all
 | _::_::_::_,_,_,_=>simp
theorem NT {q:QryE} (hf:q.fams=[]) (hp:q.pre=[]) (l:List CelE):Yk q none l=l:=by
 unfold Yk
 rw[List.filter_eq_self]
 intro c _
 simp[XD,hf,hp,JV,Uo]
theorem asks_all {q:QryE} (h1:q.frm=[]) (h2:q.to=[]) (h3:q.pre=[]) (r:List UInt8):YU q r=true:=by
 unfold YU
 rw[h1,h2]
 have:0≤Lib.compareBytes r []:=by cases r<;>simp[Lib.compareBytes]
 simp[this]
theorem qOwn_ask (q:QryE) (l:List RowE):XJ twoF (qOwn q) (Wn 2 l) (allV (qOwn q) (YE twoF (qOwn q)) (Wn 2 l)):=by
 refine⟨Y4 q,?_,X3 _ _,neatE_up _ _,neatE_good _ _,rfl⟩
 have hf:Ym twoF.length (qOwn q)=true:=by
   have h:=Lc q (qTok q).token
   unfold Ym VN Qj Ur at h ⊢
   simp only[Bool.and_eq_true,decide_eq_true_eq]at h ⊢
   simp[qOwn,qTok]at h ⊢
   omega
 rw[qcE_of JN hf (by rintro⟨a,_⟩;simp[qOwn,qTok]at a),Ji (show(qOwn q).token=[]from X3 _ _)]
theorem own_V (q:QryE) (L:List RowE):allV (qOwn q) (YE twoF (qOwn q)) L=(dirL (qOwn q) L).filter hasC:=by
 unfold allV visL
 have ht:YE twoF (qOwn q)=none:=rfl
 rw[ht]
 have h1:∀x,visR (qOwn q) none x=x:=fun x=>by
   unfold visR;rw[NT rfl rfl]
 have h2:visB (qOwn q) none=hasC:=by
   funext x
   unfold visB hasC
   rw[NT rfl rfl,asks_all rfl rfl rfl,Bool.true_and]
   by_cases h:x.cells=[]
   ·simp[h]
   ·have:=List.length_pos_iff.2 h
    simp[h,this]
 rw[h2]
 have:visR (qOwn q) none=id:=funext h1
 rw[this,List.map_id]
theorem own_from (q:QryE) (L:List RowE):Wq (qOwn q) L=dirL (qOwn q) L:=by
 unfold Wq
 rw[List.filter_eq_self]
 intro x _
 unfold XA Zv
 rw[Ji (show(qOwn q).token=[]from X3 _ _)]
 simp[show(qOwn q).to=[]from rfl,show(qOwn q).frm=[]from rfl]
theorem own_first (q:QryE) (L:List RowE):Xv (Wq (qOwn q) L)=(allV (qOwn q) (YE twoF (qOwn q)) L).take 2:=by
 rw[own_from,own_V];rfl
theorem own_three (q:QryE) (rows:List RowE):3≤(allV (qOwn q) (YE twoF (qOwn q)) (Wn 2 (Yn++rows))).length:=by
 rw[own_V]
 have hp:∀r∈Yn,r∈Wn 2 Yn:=odc
 have hm:∀r∈Yn,hasC r=true→r∈(dirL (qOwn q) (Wn 2 (Yn++rows))).filter hasC:=fun r hr hc=>List.mem_filter.2 ⟨QN.2 (neatE_keep 2 _ _ (hp r hr)),hc⟩
 exact three_le (hm (XL 0) odc odc) (hm (XL 1) odc odc) (hm (XL 2) odc odc) odc odc odc
end Go.Proofs.YtkmkbndcekklmaaGreatDoor
set_option maxRecDepth 10000
namespace Go.Proofs.YtkmkbndcekklmaaGreatDoor
open Go Go.Sx Go.Rt Go.Proofs Tryz
structure PgF (lo hi:Nat) (z:PgE) (H:Heap) (p:PO):Prop where
 own:OwnF H p.av (pgAV z) p.ks
 at_:p.At H
 fam:p.rs.map (fun o=>o.cs.map (·.fam))=z.rows.map (fun r=>r.cells.map (·.fam))
 bls:Mh H 1099511627776 p.bls
 tok:p.t.l=z.token.length
 nd:p.ks.Nodup
 keys:∀k∈p.ks,lo≤k∧k<hi
theorem PO.mem_ks {p:PO} {k:Nat}:k∈p.ks↔k=p.kR∨(k∈p.rs.map (·.kc)∨k∈p.bls.map (·.k)):=by
 rw[p.perm.mem_iff,List.mem_cons,List.mem_append]
theorem PgF.frame {lo hi lo' hi':Nat} {z:PgE} {H H':Heap} {p:PO} (h:PgF lo hi z H p) (hH:∀k∈p.ks,H' k=H k) (h1:lo'≤lo) (h2:hi≤hi'):PgF lo' hi' z H' p:=
 ⟨h.own.frame hH,h.at_.frame (hH _ (PO.mem_ks.2 (.inl rfl))) (fun r hr=>hH _ (PO.mem_ks.2 (.inr (.inl (List.mem_map.2 ⟨r,hr,rfl⟩))))),h.fam,
   fun s hs=>⟨by obtain⟨X,a,b⟩:=(h.bls s hs).1;exact⟨X,(hH _ (PO.mem_ks.2 (.inr (.inr (List.mem_map.2 ⟨s,hs,rfl⟩))))).trans a,b⟩,(h.bls s hs).2⟩,h.tok,h.nd,fun k hk=>by have:=h.keys k hk;omega⟩
theorem WM (fs : List Fml) (hfs : fs.length ≤ 1048576) (q : QryE) (hqf : q.fine) (clock : Int) (rows : List RowE) (err : Int) (hrw : YG rows) (ks : Nat) {H : Heap} {n : Nat} (hG : GOK 1 1 H n) (hs : H ks = some (srcN rows err))
   {z:PgE} (hz:(runE fs q clock (some (rows,err))).1=z) (he:(runE fs q clock (some (rows,err))).2.2=0) (ht:z.token.length≤1099511627776) (hB:∀r∈z.rows,r.row.length≤1099511627776∧∀c∈r.cells,c.qual.length≤1099511627776∧c.value.length≤1099511627776):
   Zk prog 18 [Zi fs,Zf q,.int .i64 clock,.iface 52 (.loc ks 0 0 0 [])] H n fun res H' n'=>n≤n'∧(∀k,k<n→k≠ks→H' k=H k)∧∃p:PO,res= .val (.tup [p.av,.int .i64 0])∧PgF n n' z H' p:=by
 refine(LU fs hfs q hqf clock rows err hrw ks hG hs).full fun res H1 n1 h=> ?_
 rw[RunO,hz,he]at h
 obtain⟨h1,h2,a,pk,hr,ho,hd,hp⟩:=h
 have e:=PV (j:= .i64) (y:=0) ho
 refine⟨_,_,pk,hr,e,hd,fun k hk=>(hp k hk).2,fun r' H2 n2 ks' ho2 hf=> ?_⟩
 cases ho2 with
 | nk h=>exact h.elim
 | tup h3=>cases h3 with
   | cons h4 h3=>cases h3 with
     | cons h5 h3=>cases h3 with
       | nil=>
         obtain⟨rfl,rfl⟩:=OwnF.of_nk h5 trivial
         obtain⟨p,rfl,p1,p2,p3,p4,rfl⟩:=OwnF.of_page h4 ht hB
         have hf':=hf
         simp only[List.append_nil]at hf'
         have hle:=hf'.le
         refine⟨om,fun k hk hne=>(hf'.out k om (fun hm=>by have:=(hp k hm).1;omega)).trans (h2 k hk hne),p,rfl,h4,p1,p2,p3,p4,hf'.nd,fun k hk=> ?_⟩
         rcases hf'.sub k hk with h9 | h9
         ·have:=hp k h9;omega
         ·omega
theorem PgF.tokF {lo hi:Nat} {z:PgE} {H:Heap} {p:PO} (h:PgF lo hi z H p):Frz H 0 p.t.av (bys z.token):=by
 have h1:OwnF H (.agg [.osl p.kR p.vR 0 p.rs.length,p.t.av,.bool p.done]) (.agg [.sl 2 (z.rows.map Zg),bys z.token,.bool z.done]) p.ks:=h.own
 generalize p.ks=ks at h1
 cases h1 with
 | agg h=>cases h with
   | cons h1 h=>cases h with
     | cons h2 h=>exact h2.own.frz fun _ _=>Nat.zero_le _
theorem own_bl {H:Heap} {k ver:Nat} {b:List UInt8} (h:H k=some (.arr ver 1 (b.map Zd))):Own H (.osl k ver 0 b.length) (bys b) [k]:=
 .osl h osi (by rw[List.take_of_length_le osi];exact PU _ fun x hx=>by obtain⟨y,_,rfl⟩:=List.mem_map.1 hx;trivial)
theorem oa_law13_part (b:List UInt8) (hb:b.length≤1099511627776) (H:Heap) (n:Nat):Zk prog 23 [bys b] H n (OAns H n (bys b)):=
 Zk.mono (Km b hb H n) fun res H1 n1 ⟨hr,hH,hn⟩=>by
   subst hr hH hn
   exact OAns.one (own_bl (Px _ _ _)) ⟨om,om⟩ (fun k hk=>Pw _ _ om) om
theorem U4 {b:List UInt8} (hb:b.length≤1099511627776) {a:AV} {H:Heap} (h:Frz H 0 a (bys b)) (n:Nat):Ret prog 23 [a] H n (bys b) H n:=
 OAns.fin (OAns.lend (JJ.none H) (.cons h .nil) (oa_law13_part b hb _ _))
theorem o_start_full (q:QryE) (hq:q.fine) {H:Heap} {n:Nat} (hG:GOK 1 1 H n):Zk prog 24 [Zf q] H n fun res H' n'=>n≤n'∧(∀k,k<n→H' k=H k)∧∃s:BL,res= .val (.tup [s.av,.bool (Zv q).2.1,.int .i64 (Zv q).2.2])∧Frz H' 0 s.av (bys (Zv q).1)∧Bl0 H' 1 s∧s.l=(Zv q).1.length∧n≤s.k∧s.k<n':=by
 refine(Un q hq hG).full fun res H1 n1 ⟨a,ks,hr,hm⟩=>⟨a,YY q,ks,hr,hm.own,hm.nd,fun k hk=>(hm.lo k hk).2,fun r' H2 n2 ks' ho hf=> ?_⟩
 unfold YY at ho
 cases ho with
 | nk h=>exact h.elim
 | tup h3=>cases h3 with
   | cons h4 h3=>cases h3 with
     | cons h5 h3=>cases h3 with
       | cons h6 h3=>cases h3 with
         | nil=>
           obtain⟨rfl,rfl⟩:=OwnF.of_nk h5 trivial
           obtain⟨rfl,rfl⟩:=OwnF.of_nk h6 trivial
           have h7:=h4.own.frz fun _ _=>Nat.zero_le _
           obtain⟨s,rfl,s1,s2,rfl⟩:=PS h4
           have hle:=hf.le
           have hnn:=hm.nn
           refine⟨om,fun k hk=>(hf.out k om (fun h9=>by have:=(hm.lo k h9).1;omega)).trans (hm.low k hk),s,rfl,h7,s1,s2,?_⟩
           rcases hf.sub s.k osi with h9 | h9
           ·have:=hm.lo _ h9;omega
           ·omega
theorem c_law13_bytes (p:PO) (hp:p.rs.length≤1048576) (hc:∀r∈p.rs,r.cs.length≤1048576) (H:Heap) (n:Nat) (hA:p.At H) (hk:∀k∈p.ks,k<n):Ret prog 47 [p.av] H n (.sl 1 (p.bls.map BL.av)) H n:=
 Ret.fin ((Jz p hp hc H n hA ⟨hk _ (PO.mem_ks.2 (.inl rfl)),fun r hr=>hk _ (PO.mem_ks.2 (.inr (.inl (List.mem_map.2 ⟨r,hr,rfl⟩))))⟩).mono fun res H1 n1 ⟨ver,hr,h1,hlow,hn⟩=>⟨_,hr,hlow,by
   exact Frz.osl h1 om osi (by
     rw[List.drop_zero,List.take_of_length_le osi]
     exact Wp _ ((PY n _).2 fun x hx=>by obtain⟨s,hs,rfl⟩:=List.mem_map.1 hx;exact hk _ (PO.mem_ks.2 (.inr (.inr (List.mem_map.2 ⟨s,hs,rfl⟩))))))⟩)
theorem Rf {p:PO} (h:p.ks.Nodup):p.kR∉p.rs.map (·.kc)∧p.kR∉p.bls.map (·.k)∧(p.rs.map (·.kc)).Nodup∧(p.bls.map (·.k)).Nodup∧∀k∈p.rs.map (·.kc),k∉p.bls.map (·.k):=by
 have h1:=p.perm.nodup_iff.1 h
 obtain⟨h2,h3⟩:=List.nodup_cons.1 h1
 obtain⟨h4,h5,h6⟩:=List.nodup_append.1 h3
 exact⟨fun h=>h2 (by simp only[List.mem_append];exact .inl h),fun h=>h2 (by simp only[List.mem_append];exact .inr h),h4,h5,fun k hk hk2=>h6 k hk k hk2 rfl⟩
theorem own_all {lo mid hi:Nat} {z:PgE} {H:Heap} {p r:PO} {s:BL} (hp:PgF lo mid z H p) (hr:PgF mid hi z H r) (hs:hi≤s.k):((p.bls++r.bls++[s]).map (·.k)).Nodup:=by
 rw[List.map_append,List.map_append]
 have h1:∀k∈p.bls.map (·.k),k<mid:=fun k hk=>(hp.keys k (PO.mem_ks.2 (.inr (.inr hk)))).2
 have h2:∀k∈r.bls.map (·.k),mid≤k∧k<hi:=fun k hk=>hr.keys k (PO.mem_ks.2 (.inr (.inr hk)))
 have hlh:∀k∈p.bls.map (·.k),k<hi:=fun k hk=>by
   have h9:=h1 k hk
   have h8:=hr.keys r.kR (PO.mem_ks.2 (.inl rfl))
   omega
 refine List.nodup_append.2 ⟨List.nodup_append.2 ⟨(Rf hp.nd).2.2.2.1,(Rf hr.nd).2.2.2.1,fun a ha b hb e=> ?_⟩,osi,fun a ha b hb e=> ?_⟩
 ·have:=h1 a ha;have:=h2 b hb;omega
 ·simp only[List.map_cons,List.map_nil,List.mem_singleton]at hb
  rcases List.mem_append.1 ha with ha | ha
  ·have:=hlh a ha;omega
  ·have:=h2 a ha;omega
theorem PgF.len {lo hi:Nat} {z:PgE} {H:Heap} {p:PO} (h:PgF lo hi z H p):p.rs.length=z.rows.length:=by
 have:=congrArg List.length h.fam
 rwa [List.length_map,List.length_map]at this
theorem PgF.row {lo hi:Nat} {z:PgE} {H:Heap} {p:PO} (h:PgF lo hi z H p) {o:RO} (ho:o∈p.rs):∃x∈z.rows,o.cs.map (·.fam)=x.cells.map (·.fam):=by
 have h1:o.cs.map (·.fam)∈z.rows.map (fun r=>r.cells.map (·.fam)):=h.fam▸List.mem_map.2 ⟨o,ho,rfl⟩
 obtain⟨x,hx,e⟩:=List.mem_map.1 h1
 exact⟨x,hx,e.symm⟩
theorem PgF.clen {lo hi:Nat} {z:PgE} {H:Heap} {p:PO} (h:PgF lo hi z H p) (hc:∀x∈z.rows,x.cells.length≤1048576):∀o∈p.rs,o.cs.length≤1048576:=fun o ho=>by
 obtain⟨x,hx,e⟩:=h.row ho
 have:=congrArg List.length e
 rw[List.length_map,List.length_map]at this
 rw[this];exact hc x hx
theorem PgF.fam0 {lo hi:Nat} {z:PgE} {H:Heap} {p:PO} (h:PgF lo hi z H p) (hc:∀x∈z.rows,∀c∈x.cells,0≤c.fam):∀o∈p.rs,∀c∈o.cs,0≤c.fam:=fun o ho c hcm=>by
 obtain⟨x,hx,e⟩:=h.row ho
 have h1:c.fam∈x.cells.map (·.fam):=e▸List.mem_map.2 ⟨c,hcm,rfl⟩
 obtain⟨d,hd,e2⟩:=List.mem_map.1 h1
 rw[←e2];exact hc x hx d hd
theorem ask_start {fs:List Fml} {q:QryE} {l V:List RowE} (h:XJ fs q l V) {j:Nat} (hj:j≤V.length) (h0:0<j) (m:Int):(Zv (qAt q V j m)).1.length≤257:=by
 have hr:=h.read hj m
 rw[if_neg om]at hr
 have hm:=(h.mem (YI V (show j-1<V.length by omega))).2.2
 have ha:=(atZ_in h).1
 unfold Zv
 rw[hr]
 simp only
 rw[if_neg osi,if_pos om]
 show(if (qAt q V j m).rev then _ else _:List UInt8).length≤257
 split
 ·omega
 ·rw[List.length_append,List.length_singleton];omega
theorem Jj {p r:PO} {s:BL} {k:Nat}:k∈(p.bls++r.bls++[s]).map (·.k)↔(k∈p.bls.map (·.k)∨k∈r.bls.map (·.k))∨k=s.k:=by
 rw[List.map_append,List.map_append,List.mem_append,List.mem_append,List.map_singleton,List.mem_singleton]
theorem own_quiet {lo mid hi : Nat} {z : PgE} {H : Heap} {p r : PO} {s : BL} (hp : PgF lo mid z H p) (hr : PgF mid hi z H r) (hs : hi ≤ s.k) :
   (∀k,k<lo→k∉(p.bls++r.bls++[s]).map (·.k))∧(∀k,k<mid→k∉p.ks→k∉(p.bls++r.bls++[s]).map (·.k))∧(∀k,mid≤k→k<hi→k∉r.ks→k∉(p.bls++r.bls++[s]).map (·.k))
     ∧p.kR∉(p.bls++r.bls++[s]).map (·.k)∧(∀o∈p.rs,o.kc∉(p.bls++r.bls++[s]).map (·.k))∧r.kR∉(p.bls++r.bls++[s]).map (·.k)∧∀o∈r.rs,o.kc∉(p.bls++r.bls++[s]).map (·.k):=by
 have h1:∀k∈p.bls.map (·.k),k∈p.ks:=fun k hk=>PO.mem_ks.2 (.inr (.inr hk))
 have h2:∀k∈r.bls.map (·.k),k∈r.ks:=fun k hk=>PO.mem_ks.2 (.inr (.inr hk))
 obtain⟨p1,p2,p3,p4,p5⟩:=Rf hp.nd
 obtain⟨r1,r2,r3,r4,r5⟩:=Rf hr.nd
 have hmh:mid<hi:=by have:=hr.keys r.kR (PO.mem_ks.2 (.inl rfl));omega
 have hlm:lo<mid:=by have:=hp.keys p.kR (PO.mem_ks.2 (.inl rfl));omega
 have hP:∀k,k∈p.ks→k∉p.bls.map (·.k)→k∉(p.bls++r.bls++[s]).map (·.k):=fun k hk hn hm=>by
   have hkk:=hp.keys k hk
   rcases Jj.1 hm with(h | h) | h
   ·exact hn h
   ·have:=hr.keys k (h2 k h);omega
   ·omega
 have hR:∀k,k∈r.ks→k∉r.bls.map (·.k)→k∉(p.bls++r.bls++[s]).map (·.k):=fun k hk hn hm=>by
   have hkk:=hr.keys k hk
   rcases Jj.1 hm with(h | h) | h
   ·have:=hp.keys k (h1 k h);omega
   ·exact hn h
   ·omega
 refine⟨fun k hk hm=> ?_,fun k hk hn hm=> ?_,fun k hk hk2 hn hm=> ?_,hP _ (PO.mem_ks.2 (.inl rfl)) p2,fun o ho=> ?_,hR _ (PO.mem_ks.2 (.inl rfl)) r2,fun o ho=> ?_⟩
 ·rcases Jj.1 hm with(h | h) | h
  ·have:=hp.keys k (h1 k h);omega
  ·have:=hr.keys k (h2 k h);omega
  ·omega
 ·rcases Jj.1 hm with(h | h) | h
  ·exact hn (h1 k h)
  ·have:=hr.keys k (h2 k h);omega
  ·omega
 ·rcases Jj.1 hm with(h | h) | h
  ·have:=hp.keys k (h1 k h);omega
  ·exact hn (h2 k h)
  ·omega
 ·have hm:o.kc∈p.rs.map (·.kc):=List.mem_map.2 ⟨o,ho,rfl⟩
  exact hP _ (PO.mem_ks.2 (.inr (.inl hm))) (p5 _ hm)
 ·have hm:o.kc∈r.rs.map (·.kc):=List.mem_map.2 ⟨o,ho,rfl⟩
  exact hR _ (PO.mem_ks.2 (.inr (.inl hm))) (r5 _ hm)
def m5:AV:= .agg [.int .i64 (-5),.nilsl,.int .i64 0,.nilsl]
def m6:AV:= .agg [.int .i64 (-6),.nilsl,.int .i64 0,.nilsl]
structure C5 (p:PO) (m t:AV) (Hf:Heap) (nf i:Nat) (H:Heap) (n:Nat):Prop where
 le:nf≤n
 out:∀k,k<nf→k∉p.rs.map (·.kc)→H k=Hf k
 mrk:∀j,j<i→j<p.rs.length→Mk H (p.rs.getD j default).kc (p.rs.getD j default).vc 4 m t (p.rs.getD j default).cs.length 0
 old:∀j,i≤j→j<p.rs.length→H (p.rs.getD j default).kc=Hf (p.rs.getD j default).kc
theorem C5.init (p:PO) (m t:AV) (H:Heap) (n:Nat):C5 p m t H n 0 H n:=⟨Nat.le_refl _,fun _ _ _=>rfl,fun j hj=>om,fun _ _ _=>rfl⟩
theorem ro_ne {rs:List RO} (hd:(rs.map (·.kc)).Nodup) {i j:Nat} (hi:i<rs.length) (hj:j<rs.length) (h:i≠j):(rs.getD i default).kc≠(rs.getD j default).kc:=fun e=>by
 have h1:(rs.map (·.kc))[i]'(by simpa using hi)=(rs.map (·.kc))[j]'(by simpa using hj):=by simpa [List.getD,List.getElem?_eq_getElem hi,List.getElem?_eq_getElem hj]using e
 exact h ((List.getElem_inj hd).1 h1)
theorem ro_mem {rs:List RO} {i:Nat} (hi:i<rs.length):(rs.getD i default).kc∈rs.map (·.kc):=List.mem_map.2 ⟨_,by simp[List.getD,List.getElem?_eq_getElem hi],rfl⟩
theorem C5.step {p : PO} {m t : AV} {Hf : Heap} {nf i : Nat} {H1 : Heap} {n1 : Nat} (h : C5 p m t Hf nf i H1 n1) (hd : (p.rs.map (·.kc)).Nodup) (hlt : ∀ k ∈ p.rs.map (·.kc), k < nf) (hi : i < p.rs.length) {H2 : Heap} {n2 : Nat} (hn : n1 ≤ n2)
   (hm:Mk H2 (p.rs.getD i default).kc (p.rs.getD i default).vc 4 m t (p.rs.getD i default).cs.length 0) (ho:∀k,k<n1→k≠(p.rs.getD i default).kc→H2 k=H1 k):C5 p m t Hf nf (i+1) H2 n2:=by
 have hle:=h.le
 refine⟨om,fun k hk hk2=>(ho k om fun e=>hk2 (e▸ro_mem hi)).trans (h.out k hk hk2),fun j hj hj2=> ?_,fun j hj hj2=> ?_⟩
 ·by_cases e:j=i
  ·subst e;exact hm
  ·have:=hlt _ (ro_mem hj2)
   exact(h.mrk j om hj2).frame (ho _ om (ro_ne hd hj2 hi e))
 ·have:=hlt _ (ro_mem hj2)
  exact(ho _ om (ro_ne hd hj2 hi om)).trans (h.old j om hj2)
end Go.Proofs.YtkmkbndcekklmaaGreatDoor