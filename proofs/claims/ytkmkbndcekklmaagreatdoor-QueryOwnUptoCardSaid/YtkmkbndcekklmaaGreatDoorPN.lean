/- Own layer: QueryOwn, walked. Of the program; no condition. -/
import Derived.Test.YtkmkbndcekklmaaGreatDoorPM
import Derived.Test.YtkmkbndcekklmaaGreatDoorPF
set_option linter.unusedSimpArgs false
set_option linter.unusedVariables false
set_option maxRecDepth 10000
namespace Go.Proofs.YtkmkbndcekklmaaGreatDoor
open Go Go.Sx Go.Rt Go.Proofs Tryz
theorem NVc0.eqs {P Q:Prop} (g:Imp P Q:=by(try simp only[go_sem,seval,hst,hszo,hmoo,hago,hnum,hnua,hnum2,hszq,hagq,hmoq,f1,f2,g1,g2,g3,g4,g5,g6,b1,b2,b3,b4,b5,b6,e1,e2,hnth,Nat.add_assoc,List.length_map,Int.toNat_natCast]);exact Imp.rf):Imp P Q:=g
theorem NVc0.inz {P Q:Prop} (g:Imp P Q:=by refine Imp.up eqs ?_;(repeat (first | (refine Imp.nd ?_ ?_;· first | ((repeat' apply And.intro)<;>first | (intro d hd;cases hd;exact NR _) | (intro d hd;cases hd;exact cq_good hq _) | (intro g;trivial) | (intro g;rfl)) | exact⟨by decide,.inr trivial,by omega,by omega⟩) | refine Imp.pl ?_));exact Imp.rf):Imp P Q:=g
set_option maxRecDepth 100000 in
set_option maxHeartbeats 6400000 in
open NVc0 in
theorem LG (q : QryE) (hq : q.fine) (rows : List RowE) (hrw : YG rows) (hrl : rows.length ≤ 1048573) (H : Heap) (n : Nat) (hG : GOK 1 1 H n) :
   Ret prog 12 [Zf q,.sl 2 (rows.map Zg)] H n (.bool true) H n:=by
 have hszq:∀q,(Zf q).sz=10:=Z9
 have hagq:∀q,(Zf q).isAgg=true:=fun _=>rfl
 have hmoq:∀q,(Zf q).memOK=true:=fun _=>rfl
 have hnum:∀l,(Zx l).sz=1:=fun _=>rfl
 have hnua:∀l,(Zx l).isAgg=false:=fun _=>rfl
 have hnum2:∀l,(Zx l).memOK=true:=fun _=>rfl
 have hszo:∀p:PO,p.av.sz=3:=fun _=>rfl
 have hmoo:∀p:PO,p.av.memOK=true:=fun _=>rfl
 have hago:∀p:PO,p.av.isAgg=true:=fun _=>rfl
 have hg1:=hG.gek
 have hg2:=hG.get
 have f1:(n=n+1)=False:=by simp
 have f2:(n+1=n)=False:=by simp
 have g1:=f1
 have g2:=f1
 have g3:=f1
 have g4:=f1
 have g5:=f1
 have g6:=f1
 have b3:=f1
 have b4:=f1
 have b5:=f1
 have b6:=f1
 have e1:=f1
 have hnth:=f1
 have e2:=f1
 have b1:=f1
 have b2:=f1
 have hrk:=rowsOK_app plain_ok hrw (by show 3+rows.length≤_;omega)
 have hr0:(ZP (qOwn q)).2.2=0:=by rw[Ji (show(qOwn q).token=[]from X3 _ _)]
 have hA:=qOwn_ask q (Yn++rows)
 have hV3:=own_three q rows
 have hLk:YG (Wn 2 (Yn++rows)):=neatE_ok (nf:=2) hrk
 have hL4:=neatE_len 2 (Yn++rows)
 obtain⟨L,hL⟩:∃L,L=Wn 2 (Yn++rows):=⟨_,rfl⟩
 have hfi:=own_first q (Wn 2 (Yn++rows))
 rw[←hL]at hA hV3 hLk hL4 hfi
 obtain⟨V,hV⟩:∃V,V=allV (qOwn q) (YE twoF (qOwn q)) L:=⟨_,rfl⟩
 rw[←hV]at hA hV3 hfi
 obtain⟨S,hS⟩:∃S,S=Wq (qOwn q) L:=⟨_,rfl⟩
 have hSk:YG S:=hS▸from_ok hLk
 obtain⟨z1,z2⟩:=hA.page (j:=0) (Nat.zero_le _) (m:=2) (by omega) (by omega) (c:=5) (by omega) (by omega) (fun _=> .inl rfl)
 obtain⟨Z,hZd⟩:∃Z,Z=pgAt (qOwn q) V 0 2:=⟨_,rfl⟩
 rw[←hZd]at z2
 have hq2:qAt (qOwn q) V 0 2=qOwn q:=by unfold qAt Ub;rw[if_pos rfl,←hA.tok];rfl
 rw[hq2,←hS]at z1 z2
 have hZe:(runE twoF (qOwn q) 5 (some (S,0))).2.2=0:=z1
 have hZ:(runE twoF (qOwn q) 5 (some (S,0))).1=Z:=z2
 have hZp:Z=⟨V.take 2,Ub (qOwn q) V 2,false⟩:=by rw[hZd];unfold pgAt;rw[if_neg (by simp;omega)];rfl
 have hZt:Z.token.length≤1099511627776:=by rw[hZp];have:=pgTok_len hA 2;show(Ub (qOwn q) V 2).length≤_;omega
 have hVm:∀x∈V,x∈L:=fun x hx=>by rw[hV,own_V]at hx;exact QN.1 (List.mem_filter.1 hx).1
 have hZb:∀r∈Z.rows,r.row.length≤1099511627776∧∀c∈r.cells,c.qual.length≤1099511627776∧c.value.length≤1099511627776:=fun r hr=>by
   rw[hZp]at hr
   have h9:=hLk.2 r (hVm r (List.mem_of_mem_take hr))
   exact⟨h9.1,h9.2.2⟩
 have hZ2:Z.rows.length≤2:=by rw[hZp];show(V.take 2).length≤_;rw[List.length_take];omega
 have hZl:Z.rows.length≤1048576:=by rw[hZp];show(V.take 2).length≤_;rw[List.length_take];omega
 have hZc:∀x∈Z.rows,x.cells.length≤1048576:=fun r hr=>by
   rw[hZp]at hr
   exact(hLk.2 r (hVm r (List.mem_of_mem_take hr))).2.1
 have hZf:∀x∈Z.rows,∀c∈x.cells,0≤c.fam:=fun x hx c hc=>by
   rw[hZp]at hx
   have h9:=(hA.rows x (hVm x (List.mem_of_mem_take hx))).2.2
   unfold Ws at h9
   rw[List.any_eq_false]at h9
   have:=h9 c hc
   unfold bout at this
   simp at this
   omega
 have hZk:0<Z.token.length:=by
   rw[hZp]
   show 0<(Ub (qOwn q) V 2).length
   unfold Ub tokB
   rw[if_neg (by decide),XW];omega
 obtain⟨qT,hqT⟩:∃x,x=qAt (qOwn q) V 2 2:=⟨_,rfl⟩
 have hqTf:qT.fine:=hqT▸hA.fineAt (by omega) 2
 have hqTs:(Zv qT).1.length≤257:=hqT▸ask_start hA (by omega) (by omega) 2
 have hqTa:Zf qT= .agg [bys (qOwn q).frm,bys (qOwn q).to,Zx (qOwn q).fams,bys (qOwn q).pre,.int .i64 (qOwn q).time,.int .i64 (qOwn q).n,.int .i64 2,.bool (qOwn q).rev,.str (qOwn q).whr,bys Z.token]:=by rw[hqT,hZp];rfl
 have hszp:∀z,(pgAV z).sz=3:=fun _=>rfl
 have hmop:∀z,(pgAV z).memOK=true:=fun _=>rfl
 have hszb:∀s:BL,s.av.sz=1:=fun _=>rfl
 have hmob:∀s:BL,s.av.memOK=true:=fun _=>rfl
 have hst:∀s:BL,strip true s.av=s.av:=fun _=>rfl
 have POav:∀p:PO,p.av= .agg [.osl p.kR p.vR 0 p.rs.length,.osl p.t.k p.t.v 0 p.t.l,.bool p.done]:=fun _=>rfl
 refine Ret.fin ?_
 refine fw func12 ntmps12 results12 ?_
 refine rg zs [1,2] ?_
 refine dx zs [1,5] [.c,.q,.c,.w [0,1,2],.w []] [0,1,2,3,4] [0,1,2,3,4] fun K V=> ?_
 refine cq func14 (fun _ n=>(X5 _ _)) ?_
 refine cq func13 (fun _ n=>(KG twoF (by decide) q hq)) ?_
 apply V;clear V K
 refine Ze zs [1,5] fun K V=> ?_
 try simp only[go_sem,seval,hst,hszo,hmoo,hago,hnum,hnua,hnum2,hszq,hagq,hmoq,f1,f2,g1,g2,g3,g4,g5,g6,b1,b2,b3,b4,b5,b6,e1,e2,hnth,Nat.add_assoc,List.length_map,Int.toNat_natCast,Zf]
 repeat refine peel ?_
 apply V;clear V K
 refine Ze zs [1,5] fun K V=> ?_
 try simp only[go_sem,seval,hst,hszo,hmoo,hago,hnum,hnua,hnum2,hszq,hagq,hmoq,f1,f2,g1,g2,g3,g4,g5,g6,b1,b2,b3,b4,b5,b6,e1,e2,hnth,Nat.add_assoc,List.length_map,Int.toNat_natCast,Zf]
 repeat refine peel ?_
 apply V;clear V K
 refine Ze zs [1,5] fun K V=> ?_
 try simp only[go_sem,seval,hst,hszo,hmoo,hago,hnum,hnua,hnum2,hszq,hagq,hmoq,f1,f2,g1,g2,g3,g4,g5,g6,b1,b2,b3,b4,b5,b6,e1,e2,hnth,Nat.add_assoc,List.length_map,Int.toNat_natCast,Zf]
 repeat refine peel ?_
 apply V;clear V K
 refine Ze zs [1,5] fun K V=> ?_
 try simp only[go_sem,seval,hst,hszo,hmoo,hago,hnum,hnua,hnum2,hszq,hagq,hmoq,f1,f2,g1,g2,g3,g4,g5,g6,b1,b2,b3,b4,b5,b6,e1,e2,hnth,Nat.add_assoc,List.length_map,Int.toNat_natCast,Zf]
 repeat refine peel ?_
 apply V;clear V K
 refine Ze zs [1,5] fun K V=> ?_
 try simp only[go_sem,seval,hst,hszo,hmoo,hago,hnum,hnua,hnum2,hszq,hagq,hmoq,f1,f2,g1,g2,g3,g4,g5,g6,b1,b2,b3,b4,b5,b6,e1,e2,hnth,Nat.add_assoc,List.length_map,Int.toNat_natCast,Zf]
 repeat refine peel ?_
 apply V;clear V K
 refine Ze zs [1,5] fun K V=> ?_
 try simp only[go_sem,seval,hst,hszo,hmoo,hago,hnum,hnua,hnum2,hszq,hagq,hmoq,f1,f2,g1,g2,g3,g4,g5,g6,b1,b2,b3,b4,b5,b6,e1,e2,hnth,Nat.add_assoc,List.length_map,Int.toNat_natCast,Zf]
 repeat refine peel ?_
 apply V;clear V K
 refine VW (n+1) (els:=[qaX (qOwn q) .nilsl .nilsl .nilsl .nilsl (bys (Qi twoF q).token)]) (els':=[Zf (qOwn q)]) (by first | ((try simp only[Pv]);(repeat first | rw[if_pos rfl] | rw[if_pos trivial] | rw[if_neg (by omega)]);done) | ((try simp only[Pv]);(repeat first | rw[if_pos rfl] | rw[if_pos trivial] | rw[if_neg (by omega)]);rfl)) (wk_qa (.nilsl 1) (.nilsl 1) (.nilsl 1) (.nilsl 1) (.refl _)) ?_
 refine dx zs [5,6,7] [.q,.c,.w [0],.m,.w [0],.w [0],.w [],.m,.q,.q,.q,.q] [0,1,3,2,4,5,6,7,8,9,10,11] [0,1,3,2,4,5,6,7,8,9,10,11] fun K V=> ?_
 refine cq func14 (fun _ n=>(X5 _ _)) ?_
 refine cK func17 (x_law13_plain _ _) ?_ ?_
 ·intro p H' n' hc;cases hc.1
 intro rr H1 n1 hc
 obtain⟨hr,hp1,hlo1,hn1⟩:=hc
 cases hr
 have b1:H1 (n+1)=some (.arr 0 10 [Zf (qOwn q)]):=(hlo1 _ (by omega)).trans (by first | ((try simp only[Pv]);(repeat first | rw[if_pos rfl] | rw[if_pos trivial] | rw[if_neg (by omega)]);done) | ((try simp only[Pv]);(repeat first | rw[if_pos rfl] | rw[if_pos trivial] | rw[if_neg (by omega)]);rfl))
 have g1:H1 (n+2)=some (.arr 3 2 (Yn.map Zg)):=hp1
 refine nz ?_
 have hE:List.take 3 (List.map Zg Yn)++List.map Zg rows=(Yn++rows).map Zg:=by rw[List.map_append];rfl
 have hLn:3+rows.length=(Yn++rows).length:=by rw[List.length_append];rfl
 rw[hE,hLn]
 refine Zu func16 rfl rfl rfl (Ret.frzK (args':=[Zi twoF,.sl 2 ((Yn++rows).map Zg)]) (n+2) (Px _ _ _) ⟨.refl _,fz_rows _,trivial⟩ (c_law13_neat twoF (by decide) (Yn++rows) hrk _ _)) ?_
 rw[show Wn twoF.length (Yn++rows)=L from hL.symm]
 refine nz ?_
 refine ck func15 ((hS▸retGok (fun hne=>by(try simp only[Pv]);(repeat first | rw[if_pos rfl] | rw[if_pos trivial] | rw[if_neg (by omega)]);rw[hlo1 _ (by omega)];(try simp only[Pv]);(repeat first | rw[if_pos rfl] | rw[if_pos trivial] | rw[if_neg (by omega)]);exact hG.kindsC hne) (by(try simp only[Pv]);(repeat first | rw[if_pos rfl] | rw[if_pos trivial] | rw[if_neg (by omega)]);rw[hlo1 _ (by omega)];(try simp only[Pv]);(repeat first | rw[if_pos rfl] | rw[if_pos trivial] | rw[if_neg (by omega)]);exact hG.table) fun hGx=>c_law13_from (qOwn q) (Y4 q) hr0 L hLk hGx)) ?_
 apply V;clear V K
 refine Za fun K1 hK1=> ?_
 refine rg zs [5,6,51] ?_
 refine Zb ?_ ?_<;>intro hb
 ·exact absurd hb (by decide)
 refine ak ?_
 apply hK1
 refine ZO (fun H' n'=>H' (n+1)=some (.arr 0 10 [Zf (qOwn q)])∧(∀k,k<n→H' k=H k)∧n+2≤n') ⟨by(try simp only[Pv]);(repeat first | rw[if_pos rfl] | rw[if_pos trivial] | rw[if_neg (by omega)]);exact b1,fun k hk=>by(try simp only[Pv]);(repeat first | rw[if_pos rfl] | rw[if_pos trivial] | rw[if_neg (by omega)]);rw[hlo1 k (by omega)];(try simp only[Pv]);(repeat first | rw[if_pos rfl] | rw[if_pos trivial] | rw[if_neg (by omega)]),by omega⟩ fun H3 n3 ⟨b1,hlow,hn3⟩=> ?_
 have g2:(n=n3)=False:=by simp;omega
 have g3:(n+1=n3)=False:=by simp;omega
 refine LK (fun T' H' n'=>∃(kp:Nat) (p:PO),T'=tl [(5,.loc (n+1) 0 0 0 []),(6,.sl 2 (S.map Zg)),(8,.loc kp 0 0 0 []),(9,.int .i64 0)]∧H' (n+1)=some (.arr 0 10 [Zf (qOwn q)])∧H' kp=some (.arr 0 3 [p.av])∧n+1<kp∧kp<n'∧PgF (n+2) n' Z H' p∧kp∉p.ks∧∀k,k<n→H' k=H k) ?_ ?_
 ·refine LJ rfl zs [5,6,8,9] 10 [.c,.q,.m,.q,.w [0,1],.q,.w [],.m,.q,.q,.w [],.w [9],.q] [0,1,2,3,4,5,6,7,8,9] [11,12] (.w [0,1,3,5,8,9]) [(4,.w [0,1,3]),(6,.w [0,1,3,5])] [0,1,2,3,4,5,6,7,8,9,0,10,11] (by decide) (by kernel_rfl) (fun _ _ _ _ _ h=>h) fun K V=> ?_
  refine nz ?_
  refine cq func14 (fun _ n=>(X5 _ _)) ?_
  refine And.intro ?_ ?_
  ·refine nz ?_
   refine Zr (args':=[Zi twoF,Zf (qOwn q),.int .i64 5,.iface 52 (.loc _ 0 0 0 [])]) func18 rfl rfl rfl ((WM twoF (by decide) (qOwn q) (Y4 q) 5 S 0 hSk _ ?_ ?_ hZ hZe hZt hZb)) ?_ ?_
   ·exact hG.on (fun k hk=>by(try simp only[Pv]);(repeat first | rw[if_pos rfl] | rw[if_pos trivial] | rw[if_neg (by omega)]);exact hlow k hk) (by omega)
   ·(try simp only[Pv]);(repeat first | rw[if_pos rfl] | rw[if_pos trivial] | rw[if_neg (by omega)]);rfl
   rotate_left
   ·intro p H' n' hc;obtain⟨_,_,_,hr,_⟩:=hc;cases hr
   intro rr H1 n1 hc
   obtain⟨hn1,hlo1,p,hr,hp⟩:=hc
   cases hr
   have g4:(n+1=n1)=False:=by simp;omega
   have b1:H1 (n+1)=some (.arr 0 10 [Zf (qOwn q)]):=(hlo1 _ (by omega) (by omega)).trans (by(try simp only[Pv]);(repeat first | rw[if_pos rfl] | rw[if_pos trivial] | rw[if_neg (by omega)]);exact b1)
   have b2:H1 n3=some (.arr 0 3 [.agg [.nilsl,.nilsl,.bool false]]):=(hlo1 _ (by omega) (by omega)).trans (by(try simp only[Pv]);(repeat first | rw[if_pos rfl] | rw[if_pos trivial] | rw[if_neg (by omega)]))
   have hlow1:∀k,k<n→H1 k=H k:=fun k hk=>(hlo1 k (by omega) (by omega)).trans (by(try simp only[Pv]);(repeat first | rw[if_pos rfl] | rw[if_pos trivial] | rw[if_neg (by omega)]);exact hlow k hk)
   refine nz ?_
   apply V;clear V K
   refine ns ?_
   refine⟨_,p,rfl,?_⟩
   have hkx:∀k,(k<n3+2∨n1≤k)→k∉p.ks:=fun k hk hm=>by have:=hp.keys k hm;omega
   have hpx:∀(k:Nat) (o:Option AObj) (m:Nat),k∉p.ks→n1≤m→PgF (n+2) m Z (H1.put k o) p:=fun k o m hk hm=>hp.frame (fun j hj=>Pw _ _ fun e=>hk (e▸hj)) (by omega) hm
   (repeat' apply And.intro)<;>first | omega | (intro k hk;(try simp only[Pv]);(repeat first | rw[if_pos rfl] | rw[if_pos trivial] | rw[if_neg (by omega)]);exact hlow1 k hk) | (exact hpx _ _ _ (hkx _ (by omega)) (by omega)) | (exact hkx _ (by omega)) | ((try simp only[Pv]);(repeat first | rw[if_pos rfl] | rw[if_pos trivial] | rw[if_neg (by omega)]);done)
  refine nz ?_
  refine And.intro ?_ ?_
  ·refine nz ?_
   refine Zr (args':=[Zi twoF,Zf (qOwn q),.int .i64 5,.iface 52 (.loc _ 0 0 0 [])]) func18 rfl rfl rfl ((WM twoF (by decide) (qOwn q) (Y4 q) 5 S 0 hSk _ ?_ ?_ hZ hZe hZt hZb)) ?_ ?_
   ·exact hG.on (fun k hk=>by(try simp only[Pv]);(repeat first | rw[if_pos rfl] | rw[if_pos trivial] | rw[if_neg (by omega)]);exact hlow k hk) (by omega)
   ·(try simp only[Pv]);(repeat first | rw[if_pos rfl] | rw[if_pos trivial] | rw[if_neg (by omega)]);rfl
   rotate_left
   ·intro p H' n' hc;obtain⟨_,_,_,hr,_⟩:=hc;cases hr
   intro rr H1 n1 hc
   obtain⟨hn1,hlo1,p,hr,hp⟩:=hc
   cases hr
   have g4:(n+1=n1)=False:=by simp;omega
   have b1:H1 (n+1)=some (.arr 0 10 [Zf (qOwn q)]):=(hlo1 _ (by omega) (by omega)).trans (by(try simp only[Pv]);(repeat first | rw[if_pos rfl] | rw[if_pos trivial] | rw[if_neg (by omega)]);exact b1)
   have b2:H1 (n3+1)=some (.arr 0 3 [.agg [.nilsl,.nilsl,.bool false]]):=(hlo1 _ (by omega) (by omega)).trans (by(try simp only[Pv]);(repeat first | rw[if_pos rfl] | rw[if_pos trivial] | rw[if_neg (by omega)]))
   have hlow1:∀k,k<n→H1 k=H k:=fun k hk=>(hlo1 k (by omega) (by omega)).trans (by(try simp only[Pv]);(repeat first | rw[if_pos rfl] | rw[if_pos trivial] | rw[if_neg (by omega)]);exact hlow k hk)
   refine nz ?_
   apply V;clear V K
   refine ns ?_
   refine⟨_,p,rfl,?_⟩
   have hkx:∀k,(k<n3+2∨n1≤k)→k∉p.ks:=fun k hk hm=>by have:=hp.keys k hm;omega
   have hpx:∀(k:Nat) (o:Option AObj) (m:Nat),k∉p.ks→n1≤m→PgF (n+2) m Z (H1.put k o) p:=fun k o m hk hm=>hp.frame (fun j hj=>Pw _ _ fun e=>hk (e▸hj)) (by omega) hm
   (repeat' apply And.intro)<;>first | omega | (intro k hk;(try simp only[Pv]);(repeat first | rw[if_pos rfl] | rw[if_pos trivial] | rw[if_neg (by omega)]);exact hlow1 k hk) | (exact hpx _ _ _ (hkx _ (by omega)) (by omega)) | (exact hkx _ (by omega)) | ((try simp only[Pv]);(repeat first | rw[if_pos rfl] | rw[if_pos trivial] | rw[if_neg (by omega)]);done)
  refine nz ?_
  refine Zr (args':=[Zi twoF,Zf (qOwn q),.int .i64 5,.iface 52 (.loc _ 0 0 0 [])]) func18 rfl rfl rfl ((WM twoF (by decide) (qOwn q) (Y4 q) 5 S 0 hSk _ ?_ ?_ hZ hZe hZt hZb)) ?_ ?_
  ·exact hG.on (fun k hk=>by(try simp only[Pv]);(repeat first | rw[if_pos rfl] | rw[if_pos trivial] | rw[if_neg (by omega)]);exact hlow k hk) (by omega)
  ·(try simp only[Pv]);(repeat first | rw[if_pos rfl] | rw[if_pos trivial] | rw[if_neg (by omega)]);rfl
  rotate_left
  ·intro p H' n' hc;obtain⟨_,_,_,hr,_⟩:=hc;cases hr
  intro rr H1 n1 hc
  obtain⟨hn1,hlo1,p,hr,hp⟩:=hc
  cases hr
  have g4:(n+1=n1)=False:=by simp;omega
  have b1:H1 (n+1)=some (.arr 0 10 [Zf (qOwn q)]):=(hlo1 _ (by omega) (by omega)).trans (by(try simp only[Pv]);(repeat first | rw[if_pos rfl] | rw[if_pos trivial] | rw[if_neg (by omega)]);exact b1)
  have hlow1:∀k,k<n→H1 k=H k:=fun k hk=>(hlo1 k (by omega) (by omega)).trans (by(try simp only[Pv]);(repeat first | rw[if_pos rfl] | rw[if_pos trivial] | rw[if_neg (by omega)]);exact hlow k hk)
  refine nz ?_
  apply V;clear V K
  refine ns ?_
  refine⟨_,p,rfl,?_⟩
  have hkx:∀k,(k<n3+1∨n1≤k)→k∉p.ks:=fun k hk hm=>by have:=hp.keys k hm;omega
  have hpx:∀(k:Nat) (o:Option AObj) (m:Nat),k∉p.ks→n1≤m→PgF (n+2) m Z (H1.put k o) p:=fun k o m hk hm=>hp.frame (fun j hj=>Pw _ _ fun e=>hk (e▸hj)) (by omega) hm
  (repeat' apply And.intro)<;>first | omega | (intro k hk;(try simp only[Pv]);(repeat first | rw[if_pos rfl] | rw[if_pos trivial] | rw[if_neg (by omega)]);exact hlow1 k hk) | (exact hpx _ _ _ (hkx _ (by omega)) (by omega)) | (exact hkx _ (by omega)) | ((try simp only[Pv]);(repeat first | rw[if_pos rfl] | rw[if_pos trivial] | rw[if_neg (by omega)]);done)
 rintro T9 H1 n1 ⟨kp,p,rfl,b1,b2,hkp,hkn,hp,hkpp,hlow⟩
 obtain⟨m4,hm4⟩:∃x,x=n1:=⟨_,rfl⟩
 subst hm4
 obtain⟨G4,hG4⟩:∃x,x=H1:=⟨_,rfl⟩
 subst hG4
 have g2:(n=m4)=False:=by simp;omega
 have g3:(n+1=m4)=False:=by simp;omega
 have g4:(kp=m4)=False:=by simp;omega
 refine LK (fun T' H' n'=>∃(kr:Nat) (r:PO),T'=tl [(5,.loc (n+1) 0 0 0 []),(6,.sl 2 (S.map Zg)),(8,.loc kp 0 0 0 []),(9,.int .i64 0),(10,.loc kr 0 0 0 []),(11,.int .i64 0)]∧H' (n+1)=some (.arr 0 10 [Zf (qOwn q)])∧H' kp=some (.arr 0 3 [p.av])∧H' kr=some (.arr 0 3 [r.av])∧m4≤kr∧kr<n'∧PgF (n+2) m4 Z H' p∧PgF m4 n' Z H' r∧kr∉r.ks∧∀k,k<n→H' k=H k) ?_ ?_
 ·refine LJ rfl zs [5,6,8,9,10,11] 10 [.c,.q,.m,.q,.w [0,1],.q,.w [],.m,.q,.q,.w [],.w [9],.q] [0,1,2,3,4,5,6,7,8,9] [11,12] (.w [0,1,3,5,8,9]) [(4,.w [0,1,3]),(6,.w [0,1,3,5])] [0,1,2,3,4,5,6,7,8,9,0,10,11] (by decide) (by kernel_rfl) (fun _ _ _ _ _ h=>h) fun K V=> ?_
  refine nz ?_
  refine cq func14 (fun _ n=>(X5 _ _)) ?_
  refine And.intro ?_ ?_
  ·refine nz ?_
   refine Zr (args':=[Zi twoF,Zf (qOwn q),.int .i64 5,.iface 52 (.loc _ 0 0 0 [])]) func18 rfl rfl rfl ((WM twoF (by decide) (qOwn q) (Y4 q) 5 S 0 hSk _ ?_ ?_ hZ hZe hZt hZb)) ?_ ?_
   ·exact hG.on (fun k hk=>by(try simp only[Pv]);(repeat first | rw[if_pos rfl] | rw[if_pos trivial] | rw[if_neg (by omega)]);exact hlow k hk) (by omega)
   ·(try simp only[Pv]);(repeat first | rw[if_pos rfl] | rw[if_pos trivial] | rw[if_neg (by omega)]);rfl
   rotate_left
   ·intro p H' n' hc;obtain⟨_,_,_,hr,_⟩:=hc;cases hr
   intro rr H1 n1 hc
   obtain⟨hn1,hlo1,r,hr,hr1⟩:=hc
   cases hr
   have g5:(n+1=n1)=False:=by simp;omega
   have g6:(kp=n1)=False:=by simp;omega
   have b1:H1 (n+1)=some (.arr 0 10 [Zf (qOwn q)]):=(hlo1 _ (by omega) (by omega)).trans (by(try simp only[Pv]);(repeat first | rw[if_pos rfl] | rw[if_pos trivial] | rw[if_neg (by omega)]);exact b1)
   have b2:H1 kp=some (.arr 0 3 [p.av]):=(hlo1 _ (by omega) (by omega)).trans (by(try simp only[Pv]);(repeat first | rw[if_pos rfl] | rw[if_pos trivial] | rw[if_neg (by omega)]);exact b2)
   have b3:H1 m4=some (.arr 0 3 [.agg [.nilsl,.nilsl,.bool false]]):=(hlo1 _ (by omega) (by omega)).trans (by(try simp only[Pv]);(repeat first | rw[if_pos rfl] | rw[if_pos trivial] | rw[if_neg (by omega)]))
   have hlow1:∀k,k<n→H1 k=H k:=fun k hk=>(hlo1 k (by omega) (by omega)).trans (by(try simp only[Pv]);(repeat first | rw[if_pos rfl] | rw[if_pos trivial] | rw[if_neg (by omega)]);exact hlow k hk)
   refine nz ?_
   apply V;clear V K
   refine ns ?_
   refine⟨_,r,rfl,?_⟩
   have hkx:∀k,(k<m4+2∨n1≤k)→k∉r.ks:=fun k hk hm=>by have:=hr1.keys k hm;omega
   have hpx:∀(k:Nat) (o:Option AObj) (m:Nat),k∉r.ks→n1≤m→PgF m4 m Z (H1.put k o) r:=fun k o m hk hm=>hr1.frame (fun j hj=>Pw _ _ fun e=>hk (e▸hj)) (by omega) hm
   have hpp:∀(k:Nat) (o:Option AObj),m4≤k→PgF (n+2) m4 Z (H1.put k o) p:=fun k o hk=>hp.frame (fun j hj=>by have h9:=(hp.keys j hj).2;rw[Pw _ _ (by omega)];exact(hlo1 j (by omega) (by omega)).trans (by(try simp only[Pv]);(repeat first | rw[if_pos rfl] | rw[if_pos trivial] | rw[if_neg (by omega)]))) (Nat.le_refl _) (Nat.le_refl _)
   (repeat' apply And.intro)<;>first | omega | (intro k hk;(try simp only[Pv]);(repeat first | rw[if_pos rfl] | rw[if_pos trivial] | rw[if_neg (by omega)]);exact hlow1 k hk) | (exact hpx _ _ _ (hkx _ (by omega)) (by omega)) | (exact hpp _ _ (by omega)) | (exact hkx _ (by omega)) | ((try simp only[Pv]);(repeat first | rw[if_pos rfl] | rw[if_pos trivial] | rw[if_neg (by omega)]);done)
  refine nz ?_
  refine And.intro ?_ ?_
  ·refine nz ?_
   refine Zr (args':=[Zi twoF,Zf (qOwn q),.int .i64 5,.iface 52 (.loc _ 0 0 0 [])]) func18 rfl rfl rfl ((WM twoF (by decide) (qOwn q) (Y4 q) 5 S 0 hSk _ ?_ ?_ hZ hZe hZt hZb)) ?_ ?_
   ·exact hG.on (fun k hk=>by(try simp only[Pv]);(repeat first | rw[if_pos rfl] | rw[if_pos trivial] | rw[if_neg (by omega)]);exact hlow k hk) (by omega)
   ·(try simp only[Pv]);(repeat first | rw[if_pos rfl] | rw[if_pos trivial] | rw[if_neg (by omega)]);rfl
   rotate_left
   ·intro p H' n' hc;obtain⟨_,_,_,hr,_⟩:=hc;cases hr
   intro rr H1 n1 hc
   obtain⟨hn1,hlo1,r,hr,hr1⟩:=hc
   cases hr
   have g5:(n+1=n1)=False:=by simp;omega
   have g6:(kp=n1)=False:=by simp;omega
   have b1:H1 (n+1)=some (.arr 0 10 [Zf (qOwn q)]):=(hlo1 _ (by omega) (by omega)).trans (by(try simp only[Pv]);(repeat first | rw[if_pos rfl] | rw[if_pos trivial] | rw[if_neg (by omega)]);exact b1)
   have b2:H1 kp=some (.arr 0 3 [p.av]):=(hlo1 _ (by omega) (by omega)).trans (by(try simp only[Pv]);(repeat first | rw[if_pos rfl] | rw[if_pos trivial] | rw[if_neg (by omega)]);exact b2)
   have b3:H1 (m4+1)=some (.arr 0 3 [.agg [.nilsl,.nilsl,.bool false]]):=(hlo1 _ (by omega) (by omega)).trans (by(try simp only[Pv]);(repeat first | rw[if_pos rfl] | rw[if_pos trivial] | rw[if_neg (by omega)]))
   have hlow1:∀k,k<n→H1 k=H k:=fun k hk=>(hlo1 k (by omega) (by omega)).trans (by(try simp only[Pv]);(repeat first | rw[if_pos rfl] | rw[if_pos trivial] | rw[if_neg (by omega)]);exact hlow k hk)
   refine nz ?_
   apply V;clear V K
   refine ns ?_
   refine⟨_,r,rfl,?_⟩
   have hkx:∀k,(k<m4+2∨n1≤k)→k∉r.ks:=fun k hk hm=>by have:=hr1.keys k hm;omega
   have hpx:∀(k:Nat) (o:Option AObj) (m:Nat),k∉r.ks→n1≤m→PgF m4 m Z (H1.put k o) r:=fun k o m hk hm=>hr1.frame (fun j hj=>Pw _ _ fun e=>hk (e▸hj)) (by omega) hm
   have hpp:∀(k:Nat) (o:Option AObj),m4≤k→PgF (n+2) m4 Z (H1.put k o) p:=fun k o hk=>hp.frame (fun j hj=>by have h9:=(hp.keys j hj).2;rw[Pw _ _ (by omega)];exact(hlo1 j (by omega) (by omega)).trans (by(try simp only[Pv]);(repeat first | rw[if_pos rfl] | rw[if_pos trivial] | rw[if_neg (by omega)]))) (Nat.le_refl _) (Nat.le_refl _)
   (repeat' apply And.intro)<;>first | omega | (intro k hk;(try simp only[Pv]);(repeat first | rw[if_pos rfl] | rw[if_pos trivial] | rw[if_neg (by omega)]);exact hlow1 k hk) | (exact hpx _ _ _ (hkx _ (by omega)) (by omega)) | (exact hpp _ _ (by omega)) | (exact hkx _ (by omega)) | ((try simp only[Pv]);(repeat first | rw[if_pos rfl] | rw[if_pos trivial] | rw[if_neg (by omega)]);done)
  refine nz ?_
  refine Zr (args':=[Zi twoF,Zf (qOwn q),.int .i64 5,.iface 52 (.loc _ 0 0 0 [])]) func18 rfl rfl rfl ((WM twoF (by decide) (qOwn q) (Y4 q) 5 S 0 hSk _ ?_ ?_ hZ hZe hZt hZb)) ?_ ?_
  ·exact hG.on (fun k hk=>by(try simp only[Pv]);(repeat first | rw[if_pos rfl] | rw[if_pos trivial] | rw[if_neg (by omega)]);exact hlow k hk) (by omega)
  ·(try simp only[Pv]);(repeat first | rw[if_pos rfl] | rw[if_pos trivial] | rw[if_neg (by omega)]);rfl
  rotate_left
  ·intro p H' n' hc;obtain⟨_,_,_,hr,_⟩:=hc;cases hr
  intro rr H1 n1 hc
  obtain⟨hn1,hlo1,r,hr,hr1⟩:=hc
  cases hr
  have g5:(n+1=n1)=False:=by simp;omega
  have g6:(kp=n1)=False:=by simp;omega
  have b1:H1 (n+1)=some (.arr 0 10 [Zf (qOwn q)]):=(hlo1 _ (by omega) (by omega)).trans (by(try simp only[Pv]);(repeat first | rw[if_pos rfl] | rw[if_pos trivial] | rw[if_neg (by omega)]);exact b1)
  have b2:H1 kp=some (.arr 0 3 [p.av]):=(hlo1 _ (by omega) (by omega)).trans (by(try simp only[Pv]);(repeat first | rw[if_pos rfl] | rw[if_pos trivial] | rw[if_neg (by omega)]);exact b2)
  have hlow1:∀k,k<n→H1 k=H k:=fun k hk=>(hlo1 k (by omega) (by omega)).trans (by(try simp only[Pv]);(repeat first | rw[if_pos rfl] | rw[if_pos trivial] | rw[if_neg (by omega)]);exact hlow k hk)
  refine nz ?_
  apply V;clear V K
  refine ns ?_
  refine⟨_,r,rfl,?_⟩
  have hkx:∀k,(k<m4+1∨n1≤k)→k∉r.ks:=fun k hk hm=>by have:=hr1.keys k hm;omega
  have hpx:∀(k:Nat) (o:Option AObj) (m:Nat),k∉r.ks→n1≤m→PgF m4 m Z (H1.put k o) r:=fun k o m hk hm=>hr1.frame (fun j hj=>Pw _ _ fun e=>hk (e▸hj)) (by omega) hm
  have hpp:∀(k:Nat) (o:Option AObj),m4≤k→PgF (n+2) m4 Z (H1.put k o) p:=fun k o hk=>hp.frame (fun j hj=>by have h9:=(hp.keys j hj).2;rw[Pw _ _ (by omega)];exact(hlo1 j (by omega) (by omega)).trans (by(try simp only[Pv]);(repeat first | rw[if_pos rfl] | rw[if_pos trivial] | rw[if_neg (by omega)]))) (Nat.le_refl _) (Nat.le_refl _)
  (repeat' apply And.intro)<;>first | omega | (intro k hk;(try simp only[Pv]);(repeat first | rw[if_pos rfl] | rw[if_pos trivial] | rw[if_neg (by omega)]);exact hlow1 k hk) | (exact hpx _ _ _ (hkx _ (by omega)) (by omega)) | (exact hpp _ _ (by omega)) | (exact hkx _ (by omega)) | ((try simp only[Pv]);(repeat first | rw[if_pos rfl] | rw[if_pos trivial] | rw[if_neg (by omega)]);done)
 rintro T9 H1 n1 ⟨kr,r,rfl,b1,b2,b3,hkr,hrn,hp,hr1,hkrr,hlow⟩
 refine Za fun K2 hK2=> ?_
 have hsp:∀(H5:Heap) (m lo1 hi1 lo2 hi2:Nat) (p r:PO),PgF lo1 hi1 Z H5 p→PgF lo2 hi2 Z H5 r→Ret prog 21 [p.av,r.av] H5 m (.bool true) H5 m:=fun H5 m lo1 hi1 lo2 hi2 p r hp hr=>by
   have h9:=LC Z Z hZl hZl hZc hZc (fun _=>none) 0
   rw[decide_eq_true rfl]at h9
   exact Ret.lend trivial (.cons (hp.own.own.frz fun _ _=>Nat.zero_le _) (.cons (hr.own.own.frz fun _ _=>Nat.zero_le _) .nil)) h9
 refine Ze zs [5,6,8,10,91] fun K V=> ?_
 try simp only[go_sem,seval,hst,hszo,hmoo,hago,hnum,hnua,hnum2,hszq,hagq,hmoq,f1,f2,g1,g2,g3,g4,g5,g6,b1,b2,b3,b4,b5,b6,e1,e2,hnth,Nat.add_assoc,List.length_map,Int.toNat_natCast,POav]
 repeat refine peel ?_
 refine Zu func20 rfl rfl rfl ((Uf _ _ _)) ?_
 try simp only[go_sem,seval,hst,hszo,hmoo,hago,hnum,hnua,hnum2,hszq,hagq,hmoq,f1,f2,g1,g2,g3,g4,g5,g6,b1,b2,b3,b4,b5,b6,e1,e2,hnth,Nat.add_assoc,List.length_map,Int.toNat_natCast,POav]
 repeat refine peel ?_
 refine Yy func20 rfl rfl rfl (fun _=>(Uf _ _ _)) ?_
 try simp only[go_sem,seval,hst,hszo,hmoo,hago,hnum,hnua,hnum2,hszq,hagq,hmoq,f1,f2,g1,g2,g3,g4,g5,g6,b1,b2,b3,b4,b5,b6,e1,e2,hnth,Nat.add_assoc,List.length_map,Int.toNat_natCast,POav]
 repeat refine peel ?_
 refine Yy func21 rfl rfl rfl (fun _=>(hsp _ _ _ _ _ _ p r hp hr1)) ?_
 try simp only[go_sem,seval,hst,hszo,hmoo,hago,hnum,hnua,hnum2,hszq,hagq,hmoq,f1,f2,g1,g2,g3,g4,g5,g6,b1,b2,b3,b4,b5,b6,e1,e2,hnth,Nat.add_assoc,List.length_map,Int.toNat_natCast,POav]
 repeat refine peel ?_
 apply V;clear V K
 refine Zb ?_ ?_<;>intro hb
 ·exact absurd hb (by have:=hp.tok;simp;omega)
 refine ak ?_
 apply hK2
 refine Ze zs [5,6,8,10] fun K V=> ?_
 try simp only[go_sem,seval,hst,hszo,hmoo,hago,hnum,hnua,hnum2,hszq,hagq,hmoq,f1,f2,g1,g2,g3,g4,g5,g6,b1,b2,b3,b4,b5,b6,e1,e2,hnth,Nat.add_assoc,List.length_map,Int.toNat_natCast,Zf,POav]
 repeat refine peel ?_
 refine Zu func23 rfl rfl rfl ((U4 hZt hp.tokF _)) ?_
 try simp only[go_sem,seval,hst,hszo,hmoo,hago,hnum,hnua,hnum2,hszq,hagq,hmoq,f1,f2,g1,g2,g3,g4,g5,g6,b1,b2,b3,b4,b5,b6,e1,e2,hnth,Nat.add_assoc,List.length_map,Int.toNat_natCast,Zf,POav]
 repeat refine peel ?_
 apply V;clear V K
 refine ZO (fun H' n'=>H' (n+1)=some (.arr 0 10 [Zf qT])∧H' kp=some (.arr 0 3 [p.av])∧H' kr=some (.arr 0 3 [r.av])∧PgF (n+2) m4 Z H' p∧PgF m4 n' Z H' r∧(∀k,k<n→H' k=H k)∧kr<n') ⟨by rw[hqTa];first | ((try simp only[Pv]);(repeat first | rw[if_pos rfl] | rw[if_pos trivial] | rw[if_neg (by omega)]);done) | ((try simp only[Pv]);(repeat first | rw[if_pos rfl] | rw[if_pos trivial] | rw[if_neg (by omega)]);rfl),by(try simp only[Pv]);(repeat first | rw[if_pos rfl] | rw[if_pos trivial] | rw[if_neg (by omega)]);exact b2,by(try simp only[Pv]);(repeat first | rw[if_pos rfl] | rw[if_pos trivial] | rw[if_neg (by omega)]);exact b3,hp.frame (fun k hk=>by have:=hp.keys k hk;(try simp only[Pv]);(repeat first | rw[if_pos rfl] | rw[if_pos trivial] | rw[if_neg (by omega)])) (by omega) (by omega),hr1.frame (fun k hk=>by have:=hr1.keys k hk;(try simp only[Pv]);(repeat first | rw[if_pos rfl] | rw[if_pos trivial] | rw[if_neg (by omega)])) (by omega) (by omega),fun k hk=>by(try simp only[Pv]);(repeat first | rw[if_pos rfl] | rw[if_pos trivial] | rw[if_neg (by omega)]);exact hlow k hk,by omega⟩ fun H5 n5 ⟨b1,b2,b3,hp,hr1,hlow,hrn⟩=> ?_
 refine rk zs [5,6,8,10,12] fun K V=> ?_
 refine cK func24 ((o_start_full qT hqTf (hG.on hlow (by omega)))) ?_ ?_
 ·intro p H' n' hc;obtain⟨_,_,_,hr,_⟩:=hc;cases hr
 intro rr H1 n1 hc
 obtain⟨hn1,hlo1,s,hr,hsF,hsB,hsl,hsk1,hsk2⟩:=hc
 cases hr
 have b1:=(hlo1 (n+1) (by omega)).trans b1
 have b2:=(hlo1 kp (by omega)).trans b2
 have b3:=(hlo1 kr (by omega)).trans b3
 have hp:=hp.frame (H':=H1) (fun k hk=>hlo1 k (by have:=hp.keys k hk;omega)) (Nat.le_refl _) (Nat.le_refl _)
 have hr1:=hr1.frame (H':=H1) (fun k hk=>hlo1 k (by have:=hr1.keys k hk;omega)) (Nat.le_refl _) (Nat.le_refl _)
 have hlow:∀k,k<n→H1 k=H k:=fun k hk=>(hlo1 k (by omega)).trans (hlow k hk)
 refine nz ?_
 apply V;clear V K
 refine rk zs [5,6,8,10,12,15] fun K V=> ?_
 refine ck func23 ((U4 (by omega) hsF _)) ?_
 apply V;clear V K
 refine Ze zs [5,6,8,10,12,15,16] fun K V=> ?_
 try simp only[go_sem,seval,hst,hszo,hmoo,hago,hnum,hnua,hnum2,hszq,hagq,hmoq,f1,f2,g1,g2,g3,g4,g5,g6,b1,b2,b3,b4,b5,b6,e1,e2,hnth,Nat.add_assoc,List.length_map,Int.toNat_natCast,POav]
 repeat refine peel ?_
 refine Zu func23 rfl rfl rfl ((U4 hZt hp.tokF _)) ?_
 try simp only[go_sem,seval,hst,hszo,hmoo,hago,hnum,hnua,hnum2,hszq,hagq,hmoq,f1,f2,g1,g2,g3,g4,g5,g6,b1,b2,b3,b4,b5,b6,e1,e2,hnth,Nat.add_assoc,List.length_map,Int.toNat_natCast,POav]
 repeat refine peel ?_
 apply V;clear V K
 have hpb:p.bls.length≤4194307:=by unfold PO.bls;rw[List.length_cons];have:=Pj p.rs (hp.clen hZc);have:=hp.len;omega
 have hrb:r.bls.length≤4194307:=by unfold PO.bls;rw[List.length_cons];have:=Pj r.rs (hr1.clen hZc);have:=hr1.len;omega
 have hpk:∀k∈p.ks,k<n1:=fun k hk=>by have:=hp.keys k hk;omega
 have hrk1:∀k∈r.ks,k<n1:=fun k hk=>by have:=hr1.keys k hk;omega
 refine Xe rfl zs [5,6,8,10,15,16,17] [.q,.w [2,6],.q,.w [6],.w [6],.m,.q,.w [],.q] [0,2,5,6,1,3,4,7,8] [0,4,1,5,6,2,3,7,8] (by kernel_rfl) (fun _ _ _ _ _ h=>h) fun K V=> ?_
 try simp only[go_sem,seval,hst,hszo,hmoo,hago,hnum,hnua,hnum2,hszq,hagq,hmoq,f1,f2,g1,g2,g3,g4,g5,g6,b1,b2,b3,b4,b5,b6,e1,e2,hnth,Nat.add_assoc,List.length_map,Int.toNat_natCast,List.mem_singleton,forall_eq,hszb,hmob,Bool.and_self,and_self,true_and]
 repeat refine peel ?_
 refine cK func47 ((Jz p (by have:=hp.len;omega) (hp.clen hZc) _ _ hp.at_ ⟨hpk _ (PO.mem_ks.2 (.inl rfl)),fun r hr=>hpk _ (PO.mem_ks.2 (.inr (.inl (List.mem_map.2 ⟨r,hr,rfl⟩))))⟩)) ?_ ?_
 ·intro p H' n' hc;obtain⟨_,hr,_⟩:=hc;cases hr
 intro rr H2 n2 hc2
 obtain⟨ver,hr,b4,hlo2,hn2⟩:=hc2
 cases hr
 have b1:=(hlo2 (n+1) (by omega)).trans b1
 have b2:=(hlo2 kp (by omega)).trans b2
 have b3:=(hlo2 kr (by omega)).trans b3
 have hr2:=hr1.frame (H':=H2) (fun k hk=>hlo2 k (by have:=hr1.keys k hk;omega)) (Nat.le_refl _) (Nat.le_refl _)
 try simp only[go_sem,seval,hst,hszo,hmoo,hago,hnum,hnua,hnum2,hszq,hagq,hmoq,f1,f2,g1,g2,g3,g4,g5,g6,b1,b2,b3,b4,b5,b6,e1,e2,hnth,Nat.add_assoc,List.length_map,Int.toNat_natCast,List.mem_singleton,forall_eq,hszb,hmob,Bool.and_self,and_self,true_and]
 repeat refine peel ?_
 refine Zu func47 rfl rfl rfl ((c_law13_bytes r (by have:=hr2.len;omega) (hr2.clen hZc) _ _ hr2.at_ fun k hk=>by have:=hrk1 k hk;omega)) ?_
 try simp only[go_sem,seval,hst,hszo,hmoo,hago,hnum,hnua,hnum2,hszq,hagq,hmoq,f1,f2,g1,g2,g3,g4,g5,g6,b1,b2,b3,b4,b5,b6,e1,e2,hnth,Nat.add_assoc,List.length_map,Int.toNat_natCast,List.mem_singleton,forall_eq,hszb,hmob,Bool.and_self,and_self,true_and]
 repeat (first | (refine And.intro ?_ ?_;· first | exact⟨by simp,.inr trivial,by omega,by omega⟩) | refine peel ?_)
 apply V;clear V K
 obtain⟨bs,hbs⟩:∃x,x=p.bls++r.bls++[s]:=⟨_,rfl⟩
 have hbl:p.bls.length+(r.bls.length+1)=bs.length:=by rw[hbs];simp[Nat.add_assoc]
 have hbo:(List.take (p.bls.length+r.bls.length) (List.take p.bls.length (List.map BL.av p.bls)++List.map BL.av r.bls)++[s.av])=bs.map BL.av:=by rw[hbs,List.take_of_length_le (l:=List.map BL.av p.bls) (by simp),List.take_of_length_le (by simp)];simp
 rw[hbl,hbo]
 obtain⟨ka,hka⟩:∃x,x=n1+1:=⟨_,rfl⟩
 obtain⟨va,hva⟩:∃x,x=ver+2:=⟨_,rfl⟩
 rw[←hka,←hva]
 refine ZO (fun H' n'=>H' ka=some (.arr va 1 (bs.map BL.av))∧H' (n+1)=some (.arr 0 10 [Zf qT])∧H' kp=some (.arr 0 3 [p.av])∧H' kr=some (.arr 0 3 [r.av])∧PgF (n+2) m4 Z H' p∧PgF m4 n5 Z H' r∧Mh H' 1099511627776 bs∧(∀k,k<n→H' k=H k)∧ka<n') ⟨by(try simp only[Pv]);(repeat first | rw[if_pos rfl] | rw[if_pos trivial] | rw[if_neg (by omega)]),by(try simp only[Pv]);(repeat first | rw[if_pos rfl] | rw[if_pos trivial] | rw[if_neg (by omega)]);exact b1,by(try simp only[Pv]);(repeat first | rw[if_pos rfl] | rw[if_pos trivial] | rw[if_neg (by omega)]);exact b2,by(try simp only[Pv]);(repeat first | rw[if_pos rfl] | rw[if_pos trivial] | rw[if_neg (by omega)]);exact b3,hp.frame (fun k hk=>by have:=hp.keys k hk;(try simp only[Pv]);(repeat first | rw[if_pos rfl] | rw[if_pos trivial] | rw[if_neg (by omega)]);exact hlo2 k (by omega)) (by omega) (by omega),hr1.frame (fun k hk=>by have:=hr1.keys k hk;(try simp only[Pv]);(repeat first | rw[if_pos rfl] | rw[if_pos trivial] | rw[if_neg (by omega)]);exact hlo2 k (by omega)) (by omega) (by omega),?_,fun k hk=>by(try simp only[Pv]);(repeat first | rw[if_pos rfl] | rw[if_pos trivial] | rw[if_neg (by omega)]);exact(hlo2 k (by omega)).trans (hlow k hk),by omega⟩ fun H6 n6 ⟨hka1,b1,b2,b3,hp,hr1,hB,hlow,hkan⟩=> ?_
 ·intro x hx
  rw[hbs]at hx
  have hfr:∀y:BL,y.k<n1→Bl0 H1 1 y→Bl0 (H2.put ka (some (.arr va 1 (bs.map BL.av)))) 1 y:=fun y hy ⟨X,h7,h8⟩=>⟨X,by(try simp only[Pv]);(repeat first | rw[if_pos rfl] | rw[if_pos trivial] | rw[if_neg (by omega)]);exact(hlo2 _ hy).trans h7,h8⟩
  rcases List.mem_append.1 hx with hx | hx
  ·rcases List.mem_append.1 hx with hx | hx
   ·exact⟨hfr x (hpk _ (PO.mem_ks.2 (.inr (.inr (List.mem_map.2 ⟨x,hx,rfl⟩))))) (hp.bls x hx).1,(hp.bls x hx).2⟩
   ·exact⟨hfr x (hrk1 _ (PO.mem_ks.2 (.inr (.inr (List.mem_map.2 ⟨x,hx,rfl⟩))))) (hr1.bls x hx).1,(hr1.bls x hx).2⟩
  ·rw[List.mem_singleton.1 hx];exact⟨hfr s hsk2 hsB,by omega⟩
 have hd:(bs.map (·.k)).Nodup:=hbs▸own_all hp hr1 hsk1
 have hbk:∀x∈bs,x.k<n6∧x.k≠ka:=fun x hx=>by
   have h9:x.k∈(p.bls++r.bls++[s]).map (·.k):=List.mem_map.2 ⟨x,hbs▸hx,rfl⟩
   rcases Jj.1 h9 with(h | h) | h
   ·have:=hpk _ (PO.mem_ks.2 (.inr (.inr h)));omega
   ·have:=hrk1 _ (PO.mem_ks.2 (.inr (.inr h)));omega
   ·omega
 refine rk zs [5,6,8,10,15,16,17,18] fun K V=> ?_
 refine cK func48 ((MK bs (by omega) hd ka va _ _ hka1 hkan hbk hB)) ?_ ?_
 ·intro p H' n' hc;obtain⟨_,_,hr,_⟩:=hc;cases hr
 intro rr Hf nf hc
 obtain⟨ms,vm,hr,hkm,hF⟩:=hc
 cases hr
 refine nz ?_
 apply V;clear V K
 refine Za fun K3 hK3=> ?_
 have hFo:∀k,k<n6→k∉bs.map (·.k)→Hf k=H6 k:=fun k h1 h2=>hF.out k (by omega) (by omega) h2
 obtain⟨q1,q2,q3,q4,q5,q6,q7⟩:=own_quiet hp hr1 hsk1
 rw[←hbs]at q1 q2 q3 q4 q5 q6 q7
 have hnf:n6<nf:=by have:=hF.le;omega
 have b1:=(hFo (n+1) (by omega) (q1 _ (by omega))).trans b1
 have b2:=(hFo kp (by omega) (q2 _ hkn hkpp)).trans b2
 have b3:=(hFo kr (by omega) (q3 _ hkr hrn hkrr)).trans b3
 have hka1:=(hFo ka hkan (fun h=>by obtain⟨x,hx,e⟩:=List.mem_map.1 h;exact(hbk x hx).2 e)).trans hka1
 have hka0:=hka1
 have hkm0:=hkm
 have hpK:∀k∈p.ks,n+2≤k∧k<m4:=hp.keys
 have hrK:∀k∈r.ks,m4≤k∧k<n5:=hr1.keys
 have hpA:=hp.at_.frame (hFo _ (by have:=hpK _ (PO.mem_ks.2 (.inl rfl));omega) q4) (fun o ho=>hFo _ (by have:=hpK _ (PO.mem_ks.2 (.inr (.inl (List.mem_map.2 ⟨o,ho,rfl⟩))));omega) (q5 o ho))
 have hrA:=hr1.at_.frame (hFo _ (by have:=hrK _ (PO.mem_ks.2 (.inl rfl));omega) q6) (fun o ho=>hFo _ (by have:=hrK _ (PO.mem_ks.2 (.inr (.inl (List.mem_map.2 ⟨o,ho,rfl⟩))));omega) (q7 o ho))
 have hlow:∀k,k<n→Hf k=H k:=fun k hk=>(hFo k (by omega) (q1 _ (by omega))).trans (hlow k hk)
 have hkc:∀k∈p.rs.map (·.kc),n+2≤k∧k<m4:=fun k hk=>hpK k (PO.mem_ks.2 (.inr (.inl hk)))
 have hkcf:∀k∈p.rs.map (·.kc),k<nf:=fun k hk=>by have:=hkc k hk;omega
 have hkd:=(Rf hp.nd).2.2.1
 have hkpc:kp∉p.rs.map (·.kc):=fun h=>hkpp (PO.mem_ks.2 (.inr (.inl h)))
 have hkRc:=(Rf hp.nd).1
 have hkRl:p.kR<m4:=(hpK _ (PO.mem_ks.2 (.inl rfl))).2
 obtain⟨elsR,hR1,hR2,hR3⟩:=hpA.rows
 have hpl:=hp.len
 refine rg zs [5,6,8,10,15,16,17,18,19] ?_
 refine Zq ?_
 refine Zo (fun T' H' n'=>∃i:Nat,i≤p.rs.length∧T'=tl [(5,.loc (n+1) 0 0 0 []),(6,.sl 2 (S.map Zg)),(8,.loc kp 0 0 0 []),(10,.loc kr 0 0 0 []),(15,bys (Zv qT).1),(16,bys Z.token),(17,.osl ka va 0 bs.length),(18,.osl n6 vm 0 (3*bs.length)),(19,.int .i64 i)]∧C5 p m5 m6 Hf nf i H' n') (fun T' _ _=>p.rs.length-iv (T' 19)) ?_ ?_
 ·exact⟨0,Nat.zero_le _,rfl,C5.init _ _ _ _ _⟩
 rintro T1 H1 n1 ⟨i,hi,rfl,hC⟩
 have b2:H1 kp=some (.arr 0 3 [p.av]):=(hC.out kp (by omega) hkpc).trans b2
 have b5:H1 p.kR=some (.arr p.vR 2 elsR):=(hC.out p.kR (by omega) hkRc).trans hR1
 refine Za fun K4 hK4=> ?_
 refine Ze zs [5,6,8,10,15,16,17,18,19,121] fun K V=> ?_
 try simp only[go_sem,seval,hst,hszo,hmoo,hago,hnum,hnua,hnum2,hszq,hagq,hmoq,f1,f2,g1,g2,g3,g4,g5,g6,b1,b2,b3,b4,b5,b6,e1,e2,hnth,Nat.add_assoc,List.length_map,Int.toNat_natCast,POav]
 repeat refine peel ?_
 apply V;clear V K
 refine Zb ?_ ?_<;>intro hb
 ·have hlt:i<p.rs.length:=by have:=of_decide_eq_true hb;omega
  have hom:=memR hlt
  have hnth:nth elsR i= .agg [.osl (p.rs.getD i default).r.k (p.rs.getD i default).r.v 0 (p.rs.getD i default).r.l,.osl (p.rs.getD i default).kc (p.rs.getD i default).vc 0 (p.rs.getD i default).cs.length]:=hR3 i hlt
  obtain⟨X,hX1,hX2,hX3⟩:=hpA.cells _ hom
  have b6:=(hC.old i (Nat.le_refl _) hlt).trans hX1
  have hCs:=fun H2 n2=>hC.step (H2:=H2) (n2:=n2) hkd hkcf hlt
  have hoc:=hp.clen hZc _ hom
  have hom2:(p.rs.getD i default).kc∈p.rs.map (·.kc):=ro_mem hlt
  have e1:IntKind.i64.wrap ((i:Int)+1)=((i+1:Nat):Int):=w1 (by omega)
  generalize p.rs.getD i default=o at*
  have hol:=hkc _ hom2
  have hno1:kp≠o.kc:=fun e=>hkpc (e▸hom2)
  have hno2:p.kR≠o.kc:=fun e=>hkRc (e▸hom2)
  have hCle:=hC.le
  have hol2:o.kc<n1:=by omega
  obtain⟨m1,hm1⟩:∃x,x=n1:=⟨_,rfl⟩
  subst hm1
  obtain⟨G1,hG1⟩:∃x,x=H1:=⟨_,rfl⟩
  subst hG1
  refine ak ?_
  apply hK4
  refine bk fun K5 hK5=> ?_
  refine Za fun K6 hK6=> ?_
  refine rg zs [5,6,8,10,15,16,17,18,19,20] ?_
  refine Zq ?_
  refine Zo (fun T' H' n'=>∃j:Nat,j≤o.cs.length∧T'=tl [(5,.loc (n+1) 0 0 0 []),(6,.sl 2 (S.map Zg)),(8,.loc kp 0 0 0 []),(10,.loc kr 0 0 0 []),(15,bys (Zv qT).1),(16,bys Z.token),(17,.osl ka va 0 bs.length),(18,.osl n6 vm 0 (3*bs.length)),(19,.int .i64 i),(20,.int .i64 j)]∧H' o.kc=some (.arr o.vc 4 (List.replicate j m5++X.drop j))∧(∀k,k≠o.kc→H' k=G1 k)∧m1=n') (fun T' _ _=>o.cs.length-iv (T' 20)) ?_ ?_
  ·exact⟨0,Nat.zero_le _,rfl,by simpa using b6,fun _ _=>rfl,rfl⟩
  rintro T1 H1 n1 ⟨j,hj,rfl,b6,hrest,rfl⟩
  have b2:=(hrest kp hno1).trans b2
  have b5:=(hrest p.kR hno2).trans b5
  refine Za fun K7 hK7=> ?_
  refine Ze zs [5,6,8,10,15,16,17,18,19,20,132] fun K V=> ?_
  try simp only[go_sem,seval,hst,hszo,hmoo,hago,hnum,hnua,hnum2,hszq,hagq,hmoq,f1,f2,g1,g2,g3,g4,g5,g6,b1,b2,b3,b4,b5,b6,e1,e2,hnth,Nat.add_assoc,List.length_map,Int.toNat_natCast,POav]
  repeat refine peel ?_
  apply V;clear V K
  refine Zb ?_ ?_<;>intro hb
  ·have hlj:j<o.cs.length:=by have:=of_decide_eq_true hb;omega
   have e1:IntKind.i64.wrap ((j:Int)+1)=((j+1:Nat):Int):=w1 (by omega)
   have hfl:=NH (mk:=m5) (X:=X) (j:=j) (by omega)
   refine ak ?_
   apply hK7
   refine bk fun K8 hK8=> ?_
   refine ZJ zs [5,6,8,10,15,16,17,18,19,20] fun K V=> ?_
   try simp only[go_sem,seval,hst,hszo,hmoo,hago,hnum,hnua,hnum2,hszq,hagq,hmoq,f1,f2,g1,g2,g3,g4,g5,g6,b1,b2,b3,b4,b5,b6,e1,e2,hnth,Nat.add_assoc,List.length_map,Int.toNat_natCast,POav]
   repeat (first | (refine And.intro ?_ ?_;· first | exact⟨by rw[hfl];omega,by rw[fill_nth,hX3 j hlj];rfl⟩) | refine peel ?_)
   apply V;clear V K
   refine ns ?_
   apply hK8
   refine rg1 zs [5,6,8,10,15,16,17,18,19,20] ?_
   refine⟨⟨j+1,by omega,rfl,?_,fun k hk=>by(try simp only[Pv]);(repeat first | rw[if_pos rfl] | rw[if_pos trivial] | rw[if_neg (by omega)]);exact hrest k hk⟩,by show o.cs.length-(j+1)<o.cs.length-j;omega⟩
   (try simp only[Pv]);(repeat first | rw[if_pos rfl] | rw[if_pos trivial] | rw[if_neg (by omega)]);rw[←fill_step (by omega)];rfl
  have hje:j=o.cs.length:=by have:=of_decide_eq_false hb;omega
  subst hje
  have hM:Mk H1 o.kc o.vc 4 m5 m6 o.cs.length 0:=Mk.full b6 hX2
  refine ax ?_
  apply hK6
  refine awp_reg_apm zs [5,6,8,10,15,16,17,18,19,21] 9 rfl (by first | trivial | (show _<_;decide)) fun K V=> ?_
  try simp only[go_sem,seval,hst,hszo,hmoo,hago,hnum,hnua,hnum2,hszq,hagq,hmoq,f1,f2,g1,g2,g3,g4,g5,g6,b1,b2,b3,b4,b5,b6,e1,e2,hnth,Nat.add_assoc,List.length_map,Int.toNat_natCast,POav]
  repeat (first | (refine And.intro ?_ ?_;· first | exact⟨by rw[NH (by omega)];omega,.inr trivial,by omega,by omega⟩) | refine peel ?_)
  refine Kr (m:=m5) (t:=m6) (c:=0) (b:=2) hol2 b6 hM ?_
  intro gk gv H2 n2 hn2 hgl hor hmk hkp2 hrs
  try simp only[go_sem,seval,hst,hszo,hmoo,hago,hnum,hnua,hnum2,hszq,hagq,hmoq,f1,f2,g1,g2,g3,g4,g5,g6,b1,b2,b3,b4,b5,b6,e1,e2,hnth,Nat.add_assoc,List.length_map,Int.toNat_natCast,POav]
  repeat refine peel ?_
  apply V;clear V K
  have b2:=(hrs kp (by omega) hno1).trans b2
  have b5:=(hrs p.kR (by omega) hno2).trans b5
  refine Ze zs [5,6,8,10,15,16,17,18,19,164] fun K V=> ?_
  try simp only[go_sem,seval,hst,hszo,hmoo,hago,hnum,hnua,hnum2,hszq,hagq,hmoq,f1,f2,g1,g2,g3,g4,g5,g6,b1,b2,b3,b4,b5,b6,e1,e2,hnth,Nat.add_assoc,List.length_map,Int.toNat_natCast,POav]
  repeat refine peel ?_
  apply V;clear V K
  refine Zb ?_ ?_<;>intro hb
  ·exact absurd hb (by rw[w64 (by omega) (by omega)];simp)
  refine ak ?_
  apply hK5
  refine rg1 zs [5,6,8,10,15,16,17,18,19] ?_
  exact⟨⟨i+1,by omega,rfl,hCs H2 n2 (by omega) (hkp2 0 hM) fun k h1 h2=>(hrs k h1 h2).trans (hrest k h2)⟩,by omega⟩
 have hie:i=p.rs.length:=by have:=of_decide_eq_false hb;omega
 subst hie
 refine ax ?_
 apply hK3
 refine Za fun K9 hK9=> ?_
 obtain⟨k5,hk5⟩:∃x,x=n1:=⟨_,rfl⟩
 subst hk5
 obtain⟨G5,hG5⟩:∃x,x=H1:=⟨_,rfl⟩
 subst hG5
 have hCl:=hC.le
 have hCo:∀k,k<nf→(k<n+2∨m4≤k∨k=kp)→G5 k=Hf k:=fun k h1 h2=>hC.out k h1 (fun h=>by have:=hkc k h;rcases h2 with h2 | h2 | h2;omega;omega;exact hkpc (h2▸h))
 have b1:=(hCo (n+1) (by omega) (.inl (by omega))).trans b1
 have b3:=(hCo kr (by omega) (.inr (.inl hkr))).trans b3
 have hka1:=(hCo ka (by omega) (.inr (.inl (by omega)))).trans hka1
 have hkm:=(hCo n6 (by omega) (.inr (.inl (by omega)))).trans hkm
 have hrA:=hrA.frame (hCo _ (by have:=hrK _ (PO.mem_ks.2 (.inl rfl));omega) (.inr (.inl (hrK _ (PO.mem_ks.2 (.inl rfl))).1))) (fun o ho=>hCo _ (by have:=hrK _ (PO.mem_ks.2 (.inr (.inl (List.mem_map.2 ⟨o,ho,rfl⟩))));omega) (.inr (.inl (hrK _ (PO.mem_ks.2 (.inr (.inl (List.mem_map.2 ⟨o,ho,rfl⟩))))).1)))
 obtain⟨elsS,b4,hS2,hS3⟩:=hrA.rows
 have hrl9:=hr1.len
 refine rg zs [5,6,8,10,15,16,17,18,22] ?_
 refine Zq ?_
 refine Zo (fun T' H' n'=>∃i:Nat,i≤r.rs.length∧T'=tl [(5,.loc (n+1) 0 0 0 []),(6,.sl 2 (S.map Zg)),(8,.loc kp 0 0 0 []),(10,.loc kr 0 0 0 []),(15,bys (Zv qT).1),(16,bys Z.token),(17,.osl ka va 0 bs.length),(18,.osl n6 vm 0 (3*bs.length)),(22,.int .i64 i)]∧G5=H'∧k5=n') (fun T' _ _=>r.rs.length-iv (T' 22)) ?_ ?_
 ·exact⟨0,Nat.zero_le _,rfl,rfl,rfl⟩
 rintro T1 H1 n1 ⟨i,hi,rfl,rfl,rfl⟩
 refine Za fun K10 hK10=> ?_
 refine Ze zs [5,6,8,10,15,16,17,18,22,169] fun K V=> ?_
 try simp only[go_sem,seval,hst,hszo,hmoo,hago,hnum,hnua,hnum2,hszq,hagq,hmoq,f1,f2,g1,g2,g3,g4,g5,g6,b1,b2,b3,b4,b5,b6,e1,e2,hnth,Nat.add_assoc,List.length_map,Int.toNat_natCast,POav]
 repeat refine peel ?_
 apply V;clear V K
 refine Zb ?_ ?_<;>intro hb
 ·have hlt:i<r.rs.length:=by have:=of_decide_eq_true hb;omega
  have hom:=memR hlt
  have hnth:nth elsS i= .agg [.osl (r.rs.getD i default).r.k (r.rs.getD i default).r.v 0 (r.rs.getD i default).r.l,.osl (r.rs.getD i default).kc (r.rs.getD i default).vc 0 (r.rs.getD i default).cs.length]:=hS3 i hlt
  obtain⟨X,b6,hX2,hX3⟩:=hrA.cells _ hom
  have hoc:=hr1.clen hZc _ hom
  have hof:=hr1.fam0 hZf _ hom
  have e1:IntKind.i64.wrap ((i:Int)+1)=((i+1:Nat):Int):=w1 (by omega)
  generalize r.rs.getD i default=o at*
  refine ak ?_
  apply hK10
  refine bk fun K11 hK11=> ?_
  refine rg zs [5,6,8,10,15,16,17,18,22,23] ?_
  refine Zq ?_
  refine Zo (fun T' H' n'=>∃j:Nat,j≤o.cs.length∧T'=tl [(5,.loc (n+1) 0 0 0 []),(6,.sl 2 (S.map Zg)),(8,.loc kp 0 0 0 []),(10,.loc kr 0 0 0 []),(15,bys (Zv qT).1),(16,bys Z.token),(17,.osl ka va 0 bs.length),(18,.osl n6 vm 0 (3*bs.length)),(22,.int .i64 i),(23,.int .i64 j)]∧G5=H'∧k5=n') (fun T' _ _=>o.cs.length-iv (T' 23)) ?_ ?_
  ·exact⟨0,Nat.zero_le _,rfl,rfl,rfl⟩
  rintro T1 H1 n1 ⟨j,hj,rfl,rfl,rfl⟩
  refine Za fun K12 hK12=> ?_
  refine Ze zs [5,6,8,10,15,16,17,18,22,23,180] fun K V=> ?_
  try simp only[go_sem,seval,hst,hszo,hmoo,hago,hnum,hnua,hnum2,hszq,hagq,hmoq,f1,f2,g1,g2,g3,g4,g5,g6,b1,b2,b3,b4,b5,b6,e1,e2,hnth,Nat.add_assoc,List.length_map,Int.toNat_natCast,POav]
  repeat refine peel ?_
  apply V;clear V K
  refine Zb ?_ ?_<;>intro hb
  ·have hlj:j<o.cs.length:=by have:=of_decide_eq_true hb;omega
   have e1:IntKind.i64.wrap ((j:Int)+1)=((j+1:Nat):Int):=w1 (by omega)
   have e2:nth X j= .agg [.int .i64 (o.cs.getD j default).fam,(o.cs.getD j default).q.av,.int .i64 (o.cs.getD j default).ts,(o.cs.getD j default).v.av]:=hX3 j hlj
   have hof1:=hof _ (YI o.cs hlj)
   refine ak ?_
   apply hK12
   refine bk fun K13 hK13=> ?_
   refine Ze zs [5,6,8,10,15,16,17,18,22,23,193] fun K V=> ?_
   try simp only[go_sem,seval,hst,hszo,hmoo,hago,hnum,hnua,hnum2,hszq,hagq,hmoq,f1,f2,g1,g2,g3,g4,g5,g6,b1,b2,b3,b4,b5,b6,e1,e2,hnth,Nat.add_assoc,List.length_map,Int.toNat_natCast,POav]
   repeat refine peel ?_
   apply V;clear V K
   refine Zb ?_ ?_<;>intro hb
   ·exact absurd (of_decide_eq_true hb) (by omega)
   refine ak ?_
   apply hK13
   refine rg1 zs [5,6,8,10,15,16,17,18,22,23] ?_
   exact⟨⟨j+1,by omega,rfl⟩,by show o.cs.length-(j+1)<o.cs.length-j;omega⟩
  refine ax ?_
  apply hK11
  refine rg1 zs [5,6,8,10,15,16,17,18,22] ?_
  exact⟨⟨i+1,by omega,rfl⟩,by show r.rs.length-(i+1)<r.rs.length-i;omega⟩
 refine ax ?_
 apply hK9
 refine Za fun K14 hK14=> ?_
 refine rg zs [5,6,8,15,16,17,18,24] ?_
 refine Zq ?_
 refine Zo (fun T' H' n'=>∃i:Nat,i≤p.rs.length∧T'=tl [(5,.loc (n+1) 0 0 0 []),(6,.sl 2 (S.map Zg)),(8,.loc kp 0 0 0 []),(15,bys (Zv qT).1),(16,bys Z.token),(17,.osl ka va 0 bs.length),(18,.osl n6 vm 0 (3*bs.length)),(24,.int .i64 i)]∧G5=H'∧k5=n') (fun T' _ _=>p.rs.length-iv (T' 24)) ?_ ?_
 ·exact⟨0,Nat.zero_le _,rfl,rfl,rfl⟩
 rintro T1 H1 n1 ⟨i,hi,rfl,rfl,rfl⟩
 refine Za fun K15 hK15=> ?_
 refine Ze zs [5,6,8,15,16,17,18,24,198] fun K V=> ?_
 try simp only[go_sem,seval,hst,hszo,hmoo,hago,hnum,hnua,hnum2,hszq,hagq,hmoq,f1,f2,g1,g2,g3,g4,g5,g6,b1,b2,b3,b4,b5,b6,e1,e2,hnth,Nat.add_assoc,List.length_map,Int.toNat_natCast,POav]
 repeat refine peel ?_
 apply V;clear V K
 refine Zb ?_ ?_<;>intro hb
 ·have hlt:i<p.rs.length:=by have:=of_decide_eq_true hb;omega
  have hom:=memR hlt
  have hnth:nth elsR i= .agg [.osl (p.rs.getD i default).r.k (p.rs.getD i default).r.v 0 (p.rs.getD i default).r.l,.osl (p.rs.getD i default).kc (p.rs.getD i default).vc 0 (p.rs.getD i default).cs.length]:=hR3 i hlt
  obtain⟨X,b6,hX2,hX3⟩:=hC.mrk i hlt hlt
  have hoc:=hp.clen hZc _ hom
  have e1:IntKind.i64.wrap ((i:Int)+1)=((i+1:Nat):Int):=w1 (by omega)
  generalize p.rs.getD i default=o at*
  refine ak ?_
  apply hK15
  refine bk fun K16 hK16=> ?_
  refine rg zs [5,6,8,15,16,17,18,24,25] ?_
  refine Zq ?_
  refine Zo (fun T' H' n'=>∃j:Nat,j≤o.cs.length∧T'=tl [(5,.loc (n+1) 0 0 0 []),(6,.sl 2 (S.map Zg)),(8,.loc kp 0 0 0 []),(15,bys (Zv qT).1),(16,bys Z.token),(17,.osl ka va 0 bs.length),(18,.osl n6 vm 0 (3*bs.length)),(24,.int .i64 i),(25,.int .i64 j)]∧G5=H'∧k5=n') (fun T' _ _=>o.cs.length-iv (T' 25)) ?_ ?_
  ·exact⟨0,Nat.zero_le _,rfl,rfl,rfl⟩
  rintro T1 H1 n1 ⟨j,hj,rfl,rfl,rfl⟩
  refine Za fun K17 hK17=> ?_
  refine Ze zs [5,6,8,15,16,17,18,24,25,209] fun K V=> ?_
  try simp only[go_sem,seval,hst,hszo,hmoo,hago,hnum,hnua,hnum2,hszq,hagq,hmoq,f1,f2,g1,g2,g3,g4,g5,g6,b1,b2,b3,b4,b5,b6,e1,e2,hnth,Nat.add_assoc,List.length_map,Int.toNat_natCast,POav]
  repeat refine peel ?_
  apply V;clear V K
  refine Zb ?_ ?_<;>intro hb
  ·have hlj:j<o.cs.length:=by have:=of_decide_eq_true hb;omega
   have e1:IntKind.i64.wrap ((j:Int)+1)=((j+1:Nat):Int):=w1 (by omega)
   have e2:nth X j= .agg [.int .i64 (-5),.nilsl,.int .i64 0,.nilsl]:=(hX3 j (by omega)).trans (if_pos hlj)
   refine ak ?_
   apply hK17
   refine bk fun K18 hK18=> ?_
   refine Ze zs [5,6,8,15,16,17,18,24,25,222] fun K V=> ?_
   try simp only[go_sem,seval,hst,hszo,hmoo,hago,hnum,hnua,hnum2,hszq,hagq,hmoq,f1,f2,g1,g2,g3,g4,g5,g6,b1,b2,b3,b4,b5,b6,e1,e2,hnth,Nat.add_assoc,List.length_map,Int.toNat_natCast,POav]
   repeat refine peel ?_
   apply V;clear V K
   refine Zb ?_ ?_<;>intro hb
   ·exact absurd hb (by decide)
   refine ak ?_
   apply hK18
   refine rg1 zs [5,6,8,15,16,17,18,24,25] ?_
   exact⟨⟨j+1,by omega,rfl⟩,by show o.cs.length-(j+1)<o.cs.length-j;omega⟩
  refine ax ?_
  apply hK16
  refine rg1 zs [5,6,8,15,16,17,18,24] ?_
  exact⟨⟨i+1,by omega,rfl⟩,by show p.rs.length-(i+1)<p.rs.length-i;omega⟩
 refine ax ?_
 apply hK14
 have hlow:∀k,k<n→G5 k=H k:=fun k hk=>(hCo k (by omega) (.inl (by omega))).trans (hlow k hk)
 refine Ze zs [5,6,15,16,17,18,26] fun K V=> ?_
 try simp only[go_sem,seval,hst,hszo,hmoo,hago,hnum,hnua,hnum2,hszq,hagq,hmoq,f1,f2,g1,g2,g3,g4,g5,g6,b1,b2,b3,b4,b5,b6,e1,e2,hnth,Nat.add_assoc,List.length_map,Int.toNat_natCast,YY]
 repeat refine peel ?_
 refine Zu func24 rfl rfl rfl ((OAns.fin (Un qT hqTf (hG.on hlow (by omega))))) ?_
 try simp only[go_sem,seval,hst,hszo,hmoo,hago,hnum,hnua,hnum2,hszq,hagq,hmoq,f1,f2,g1,g2,g3,g4,g5,g6,b1,b2,b3,b4,b5,b6,e1,e2,hnth,Nat.add_assoc,List.length_map,Int.toNat_natCast,YY]
 repeat refine peel ?_
 apply V;clear V K
 rw[hqTa]at b1
 refine rg zs [5,6,15,16,17,18,26] ?_
 have htk:(qOwn q).token=[]:=X3 _ _
 refine VW (n+1) (els:=[qaX (qOwn q) (bys (qOwn q).frm) (bys (qOwn q).to) (Zx (qOwn q).fams) (bys (qOwn q).pre) .nilsl]) (els':=[Zf (qOwn q)]) (by first | ((try simp only[Pv]);(repeat first | rw[if_pos rfl] | rw[if_pos trivial] | rw[if_neg (by omega)]);done) | ((try simp only[Pv]);(repeat first | rw[if_pos rfl] | rw[if_pos trivial] | rw[if_neg (by omega)]);rfl)) (wk_qa (.refl _) (.refl _) (.refl _) (.refl _) (by rw[show bys (qOwn q).token= .sl 1 [] by rw[htk];rfl];exact .nilsl 1)) ?_
 refine ZO (fun H' n'=>H' (n+1)=some (.arr 0 10 [Zf (qOwn q)])∧(∀k,k≠n+1→H' k=G5 k)∧n'=k5) ⟨by(try simp only[Pv]);(repeat first | rw[if_pos rfl] | rw[if_pos trivial] | rw[if_neg (by omega)]),fun k hk=>by(try simp only[Pv]);(repeat first | rw[if_pos rfl] | rw[if_pos trivial] | rw[if_neg (by omega)]),rfl⟩ fun H7 n7 ⟨b1,hG7,hn7⟩=> ?_
 have g2:(n=n7)=False:=by simp;omega
 have g3:(n+1=n7)=False:=by simp;omega
 refine LK (fun T' H' n'=>∃kx:Nat,T'=tl [(5,.loc (n+1) 0 0 0 []),(6,.sl 2 (S.map Zg)),(15,bys (Zv qT).1),(16,bys Z.token),(17,.osl ka va 0 bs.length),(18,.osl n6 vm 0 (3*bs.length)),(26,bys (Zv qT).1),(29,.loc kx 0 0 0 []),(30,.int .i64 0)]∧H' (n+1)=some (.arr 0 10 [Zf (qOwn q)])∧H' kx=some (.arr 0 3 [pgAV Z])∧(∀k,k<n7→H' k=H7 k)∧n7≤n') ?_ ?_
 ·refine LJ rfl zs [5,6,15,16,17,18,26,29,30] 10 [.c,.q,.m,.q,.w [0,1],.q,.w [],.m,.q,.q,.w [],.w [9],.q] [0,1,2,3,4,5,6,7,8,9] [11,12] (.w [0,1,3,5,8,9]) [(4,.w [0,1,3]),(6,.w [0,1,3,5])] [0,1,2,3,4,5,6,7,8,9,0,10,11] (by decide) (by kernel_rfl) (fun _ _ _ _ _ h=>h) fun K V=> ?_
  try simp only[go_sem,seval,hst,hszo,hmoo,hago,hnum,hnua,hnum2,hszq,hagq,hmoq,f1,f2,g1,g2,g3,g4,g5,g6,b1,b2,b3,b4,b5,b6,e1,e2,hnth,Nat.add_assoc,List.length_map,Int.toNat_natCast,hszp,hmop]
  repeat refine peel ?_
  refine ZL func14 rfl rfl rfl (fun _ n=>(X5 _ _)) ?_
  try simp only[go_sem,seval,hst,hszo,hmoo,hago,hnum,hnua,hnum2,hszq,hagq,hmoq,f1,f2,g1,g2,g3,g4,g5,g6,b1,b2,b3,b4,b5,b6,e1,e2,hnth,Nat.add_assoc,List.length_map,Int.toNat_natCast,hszp,hmop]
  repeat refine peel ?_
  refine And.intro ?_ ?_
  ·try simp only[go_sem,seval,hst,hszo,hmoo,hago,hnum,hnua,hnum2,hszq,hagq,hmoq,f1,f2,g1,g2,g3,g4,g5,g6,b1,b2,b3,b4,b5,b6,e1,e2,hnth,Nat.add_assoc,List.length_map,Int.toNat_natCast,hszp,hmop]
   repeat (first | (refine And.intro ?_ ?_;· first | ((repeat' apply And.intro)<;>first | (intro d hd;cases hd;exact NR _) | (intro g;trivial) | (intro g;rfl))) | refine peel ?_)
   refine Zr (args':=[Zi twoF,Zf (qOwn q),.int .i64 5,.iface 52 (.loc _ 0 0 0 [])]) func18 rfl rfl rfl ((Uj twoF (by decide) (qOwn q) (Y4 q) 5 S 0 hSk _ ?_ ?_)) ?_ ?_
   ·exact hG.on (fun k hk=>by(try simp only[Pv]);(repeat first | rw[if_pos rfl] | rw[if_pos trivial] | rw[if_neg (by omega)]);exact(hG7 k (by omega)).trans (hlow k hk)) (by omega)
   ·(try simp only[Pv]);(repeat first | rw[if_pos rfl] | rw[if_pos trivial] | rw[if_neg (by omega)]);rfl
   rotate_left
   ·intro p H' n' hc;cases hc.2.2
   intro rr H1 n1 hc
   obtain⟨hn1,hlo1,hr⟩:=hc
   rw[hZ,hZe]at hr
   cases hr
   have g4:(n+1=n1)=False:=by simp;omega
   have b1:H1 (n+1)=some (.arr 0 10 [Zf (qOwn q)]):=(hlo1 _ (by omega) (by omega)).trans (by(try simp only[Pv]);(repeat first | rw[if_pos rfl] | rw[if_pos trivial] | rw[if_neg (by omega)]);exact b1)
   have b2:H1 n7=some (.arr 0 3 [.agg [.nilsl,.nilsl,.bool false]]):=(hlo1 _ (by omega) (by omega)).trans (by(try simp only[Pv]);(repeat first | rw[if_pos rfl] | rw[if_pos trivial] | rw[if_neg (by omega)]))
   have hlow1:∀k,k<n7→H1 k=H7 k:=fun k hk=>(hlo1 k (by omega) (by omega)).trans (by(try simp only[Pv]);(repeat first | rw[if_pos rfl] | rw[if_pos trivial] | rw[if_neg (by omega)]))
   try simp only[go_sem,seval,hst,hszo,hmoo,hago,hnum,hnua,hnum2,hszq,hagq,hmoq,f1,f2,g1,g2,g3,g4,g5,g6,b1,b2,b3,b4,b5,b6,e1,e2,hnth,Nat.add_assoc,List.length_map,Int.toNat_natCast,hszp,hmop]
   repeat refine peel ?_
   apply V;clear V K
   refine ns ?_
   refine⟨_,rfl,?_⟩
   (repeat' apply And.intro)<;>first | omega | (intro k hk;(try simp only[Pv]);(repeat first | rw[if_pos rfl] | rw[if_pos trivial] | rw[if_neg (by omega)]);exact hlow1 k hk) | ((try simp only[Pv]);(repeat first | rw[if_pos rfl] | rw[if_pos trivial] | rw[if_neg (by omega)]);done)
  try simp only[go_sem,seval,hst,hszo,hmoo,hago,hnum,hnua,hnum2,hszq,hagq,hmoq,f1,f2,g1,g2,g3,g4,g5,g6,b1,b2,b3,b4,b5,b6,e1,e2,hnth,Nat.add_assoc,List.length_map,Int.toNat_natCast,hszp,hmop]
  repeat (first | (refine And.intro ?_ ?_;· first | ((repeat' apply And.intro)<;>first | (intro d hd;cases hd;exact NR _) | (intro g;trivial) | (intro g;rfl))) | refine peel ?_)
  refine And.intro ?_ ?_
  ·try simp only[go_sem,seval,hst,hszo,hmoo,hago,hnum,hnua,hnum2,hszq,hagq,hmoq,f1,f2,g1,g2,g3,g4,g5,g6,b1,b2,b3,b4,b5,b6,e1,e2,hnth,Nat.add_assoc,List.length_map,Int.toNat_natCast,hszp,hmop]
   repeat (first | (refine And.intro ?_ ?_;· first | ((repeat' apply And.intro)<;>first | (intro d hd;cases hd;exact NR _) | (intro g;trivial) | (intro g;rfl))) | refine peel ?_)
   refine Zr (args':=[Zi twoF,Zf (qOwn q),.int .i64 5,.iface 52 (.loc _ 0 0 0 [])]) func18 rfl rfl rfl ((Uj twoF (by decide) (qOwn q) (Y4 q) 5 S 0 hSk _ ?_ ?_)) ?_ ?_
   ·exact hG.on (fun k hk=>by(try simp only[Pv]);(repeat first | rw[if_pos rfl] | rw[if_pos trivial] | rw[if_neg (by omega)]);exact(hG7 k (by omega)).trans (hlow k hk)) (by omega)
   ·(try simp only[Pv]);(repeat first | rw[if_pos rfl] | rw[if_pos trivial] | rw[if_neg (by omega)]);rfl
   rotate_left
   ·intro p H' n' hc;cases hc.2.2
   intro rr H1 n1 hc
   obtain⟨hn1,hlo1,hr⟩:=hc
   rw[hZ,hZe]at hr
   cases hr
   have g4:(n+1=n1)=False:=by simp;omega
   have b1:H1 (n+1)=some (.arr 0 10 [Zf (qOwn q)]):=(hlo1 _ (by omega) (by omega)).trans (by(try simp only[Pv]);(repeat first | rw[if_pos rfl] | rw[if_pos trivial] | rw[if_neg (by omega)]);exact b1)
   have b2:H1 (n7+1)=some (.arr 0 3 [.agg [.nilsl,.nilsl,.bool false]]):=(hlo1 _ (by omega) (by omega)).trans (by(try simp only[Pv]);(repeat first | rw[if_pos rfl] | rw[if_pos trivial] | rw[if_neg (by omega)]))
   have hlow1:∀k,k<n7→H1 k=H7 k:=fun k hk=>(hlo1 k (by omega) (by omega)).trans (by(try simp only[Pv]);(repeat first | rw[if_pos rfl] | rw[if_pos trivial] | rw[if_neg (by omega)]))
   try simp only[go_sem,seval,hst,hszo,hmoo,hago,hnum,hnua,hnum2,hszq,hagq,hmoq,f1,f2,g1,g2,g3,g4,g5,g6,b1,b2,b3,b4,b5,b6,e1,e2,hnth,Nat.add_assoc,List.length_map,Int.toNat_natCast,hszp,hmop]
   repeat refine peel ?_
   apply V;clear V K
   refine ns ?_
   refine⟨_,rfl,?_⟩
   (repeat' apply And.intro)<;>first | omega | (intro k hk;(try simp only[Pv]);(repeat first | rw[if_pos rfl] | rw[if_pos trivial] | rw[if_neg (by omega)]);exact hlow1 k hk) | ((try simp only[Pv]);(repeat first | rw[if_pos rfl] | rw[if_pos trivial] | rw[if_neg (by omega)]);done)
  try simp only[go_sem,seval,hst,hszo,hmoo,hago,hnum,hnua,hnum2,hszq,hagq,hmoq,f1,f2,g1,g2,g3,g4,g5,g6,b1,b2,b3,b4,b5,b6,e1,e2,hnth,Nat.add_assoc,List.length_map,Int.toNat_natCast,hszp,hmop]
  repeat refine peel ?_
  refine Zr (args':=[Zi twoF,Zf (qOwn q),.int .i64 5,.iface 52 (.loc _ 0 0 0 [])]) func18 rfl rfl rfl ((Uj twoF (by decide) (qOwn q) (Y4 q) 5 S 0 hSk _ ?_ ?_)) ?_ ?_
  ·exact hG.on (fun k hk=>by(try simp only[Pv]);(repeat first | rw[if_pos rfl] | rw[if_pos trivial] | rw[if_neg (by omega)]);exact(hG7 k (by omega)).trans (hlow k hk)) (by omega)
  ·(try simp only[Pv]);(repeat first | rw[if_pos rfl] | rw[if_pos trivial] | rw[if_neg (by omega)]);rfl
  rotate_left
  ·intro p H' n' hc;cases hc.2.2
  intro rr H1 n1 hc
  obtain⟨hn1,hlo1,hr⟩:=hc
  rw[hZ,hZe]at hr
  cases hr
  have g4:(n+1=n1)=False:=by simp;omega
  have b1:H1 (n+1)=some (.arr 0 10 [Zf (qOwn q)]):=(hlo1 _ (by omega) (by omega)).trans (by(try simp only[Pv]);(repeat first | rw[if_pos rfl] | rw[if_pos trivial] | rw[if_neg (by omega)]);exact b1)
  have hlow1:∀k,k<n7→H1 k=H7 k:=fun k hk=>(hlo1 k (by omega) (by omega)).trans (by(try simp only[Pv]);(repeat first | rw[if_pos rfl] | rw[if_pos trivial] | rw[if_neg (by omega)]))
  try simp only[go_sem,seval,hst,hszo,hmoo,hago,hnum,hnua,hnum2,hszq,hagq,hmoq,f1,f2,g1,g2,g3,g4,g5,g6,b1,b2,b3,b4,b5,b6,e1,e2,hnth,Nat.add_assoc,List.length_map,Int.toNat_natCast,hszp,hmop]
  repeat (first | (refine And.intro ?_ ?_;· first | ((repeat' apply And.intro)<;>first | (intro d hd;cases hd;exact NR _) | (intro g;trivial) | (intro g;rfl))) | refine peel ?_)
  apply V;clear V K
  refine ns ?_
  refine⟨_,rfl,?_⟩
  (repeat' apply And.intro)<;>first | omega | (intro k hk;(try simp only[Pv]);(repeat first | rw[if_pos rfl] | rw[if_pos trivial] | rw[if_neg (by omega)]);exact hlow1 k hk) | ((try simp only[Pv]);(repeat first | rw[if_pos rfl] | rw[if_pos trivial] | rw[if_neg (by omega)]);done)
 rintro T9 H1 n1 ⟨kx,rfl,b1,b2,hlow9,hn9⟩
 have hq9:∀k,k<nf→n+2≤k→k∉p.rs.map (·.kc)→H1 k=Hf k:=fun k h1 h2 h3=>((hlow9 k (by omega)).trans (hG7 k (by omega))).trans (hC.out k h1 h3)
 have hbk2:∀x∈bs,n+2≤x.k∧x.k∉p.rs.map (·.kc):=fun x hx=>by
   have h9:x.k∈bs.map (·.k):=List.mem_map.2 ⟨x,hx,rfl⟩
   refine⟨Nat.le_of_not_lt fun h=>q1 _ h h9,fun h=> ?_⟩
   obtain⟨o,ho,e⟩:=List.mem_map.1 h
   exact q5 o ho (e▸h9)
 have hst9:∀m,Ret prog 50 [.osl ka va 0 bs.length,.osl n6 vm 0 (3*bs.length)] H1 m (.bool true) H1 m:=fun m=>by
   refine c_law13_stand bs ms (by omega) ka va n6 vm H1 m ((hq9 ka (by omega) (by omega) (fun h=>by have:=hkc _ h;omega)).trans hka0) ((hq9 n6 (by omega) (by omega) (fun h=>by have:=hkc _ h;omega)).trans hkm0) hF.len (fun j hj=> ?_) (fun k hk=> ?_) (fun x hx=>(hB x hx).2)
   ·have h9:=XY hj
    have h8:=(hbk _ h9).1
    exact(hF.mrk j hj).frame (hq9 _ (by omega) (hbk2 _ h9).1 (hbk2 _ h9).2)
   ·have hg:=hF.g k hk
    refine⟨hg.l,hg.mrk.frame (hq9 _ hg.lt ?_ ?_)⟩
    ·rcases hg.key with e | e
     ·rw[e];exact(hbk2 _ (XY (by omega))).1
     ·omega
    ·rcases hg.key with e | e
     ·rw[e];exact(hbk2 _ (XY (by omega))).2
     ·intro h;have:=hkc _ h;omega
 have hfS:Xv S=Z.rows:=by rw[hS,hfi,hZp]
 refine Xe rfl zs [4] [.m,.c,.q,.m,.m,.m,.c,.q,.m,.q,.q,.m,.c,.q,.m,.q,.q,.q,.m,.c,.c,.q,.m,.m,.m,.c,.q,.q] [0,1,2,3,4,5,6,7,8,9,10,11,12,13,14,15,16,17,18,19,20,21,22,23,24,25,26,27] [0,1,2,3,4,5,6,7,8,9,10,11,12,13,14,15,16,17,18,19,20,21,22,23,24,25,26,27] (by kernel_rfl) (fun _ _ _ _ _ h=>h) fun K V=> ?_
 try simp only[go_sem,seval,hst,hszo,hmoo,hago,hnum,hnua,hnum2,hszq,hagq,hmoq,f1,f2,g1,g2,g3,g4,g5,g6,b1,b2,b3,b4,b5,b6,e1,e2,hnth,Nat.add_assoc,List.length_map,Int.toNat_natCast,pgAV]
 repeat refine peel ?_
 refine ZL func20 rfl rfl rfl (fun _ n=>(Uf _ _ _)) ?_
 try simp only[go_sem,seval,hst,hszo,hmoo,hago,hnum,hnua,hnum2,hszq,hagq,hmoq,f1,f2,g1,g2,g3,g4,g5,g6,b1,b2,b3,b4,b5,b6,e1,e2,hnth,Nat.add_assoc,List.length_map,Int.toNat_natCast,pgAV]
 repeat refine peel ?_
 refine ZL func26 rfl rfl rfl (fun _ n=>(Qd _ _ _ _)) ?_
 try simp only[go_sem,seval,hst,hszo,hmoo,hago,hnum,hnua,hnum2,hszq,hagq,hmoq,f1,f2,g1,g2,g3,g4,g5,g6,b1,b2,b3,b4,b5,b6,e1,e2,hnth,Nat.add_assoc,List.length_map,Int.toNat_natCast,pgAV]
 repeat refine peel ?_
 refine ZL func26 rfl rfl rfl (fun _ n=>(Qd _ _ _ _)) ?_
 try simp only[go_sem,seval,hst,hszo,hmoo,hago,hnum,hnua,hnum2,hszq,hagq,hmoq,f1,f2,g1,g2,g3,g4,g5,g6,b1,b2,b3,b4,b5,b6,e1,e2,hnth,Nat.add_assoc,List.length_map,Int.toNat_natCast,pgAV]
 repeat refine peel ?_
 refine ZL func49 rfl rfl rfl (fun _ n=>(c_law13_first (qOwn q) S hSk _ _)) ?_
 try simp only[go_sem,seval,hst,hszo,hmoo,hago,hnum,hnua,hnum2,hszq,hagq,hmoq,f1,f2,g1,g2,g3,g4,g5,g6,b1,b2,b3,b4,b5,b6,e1,e2,hnth,Nat.add_assoc,List.length_map,Int.toNat_natCast,pgAV]
 repeat refine peel ?_
 refine ZL func43 rfl rfl rfl (fun _ n=>(UN Z.rows (Xv S) hZl (by rw[hfS];exact hZl) hZc (by rw[hfS];exact hZc) _ _)) ?_
 try simp only[go_sem,seval,hst,hszo,hmoo,hago,hnum,hnua,hnum2,hszq,hagq,hmoq,f1,f2,g1,g2,g3,g4,g5,g6,b1,b2,b3,b4,b5,b6,e1,e2,hnth,Nat.add_assoc,List.length_map,Int.toNat_natCast,pgAV]
 repeat refine peel ?_
 refine ZL func50 rfl rfl rfl (fun _ n=>(hst9 _)) ?_
 try simp only[go_sem,seval,hst,hszo,hmoo,hago,hnum,hnua,hnum2,hszq,hagq,hmoq,f1,f2,g1,g2,g3,g4,g5,g6,b1,b2,b3,b4,b5,b6,e1,e2,hnth,Nat.add_assoc,List.length_map,Int.toNat_natCast,pgAV]
 repeat refine peel ?_
 apply V;clear V K
 refine ar ?_
 simp only[hfS,beq_self_eq_true,decide_true,cond_true]
 exact⟨_,rfl,fun k hk=>((hlow9 k (by omega)).trans (hG7 k (by omega))).trans (hlow k hk),.kl trivial⟩
end Go.Proofs.YtkmkbndcekklmaaGreatDoor