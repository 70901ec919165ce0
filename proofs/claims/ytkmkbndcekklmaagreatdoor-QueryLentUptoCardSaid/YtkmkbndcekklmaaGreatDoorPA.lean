/- Own layer 'Sx', part M0: what is proved by itself, in short words. No program; no condition. -/
import Derived.Orders
import Derived.Tactics
import Derived.Laws.World
import Derived.Laws.Cells
import Derived.Laws.Entries
import Derived.Below
import Derived.Laws.CopyRow
import Derived.ChangeKeysEq
import Derived.Laws.Strings
set_option linter.unusedSimpArgs false
set_option linter.unusedVariables false
namespace Go
structure Wr(P:Prop):Prop where o:P
theorem om{P:Prop}(g:P:=by omega):P:=g
theorem oz{P:Prop}(g:P:=by simp;omega):P:=g
theorem osb{P:Prop}(g:P:=by simpa using hb):P:=g
theorem ott{P:Prop}(g:P:=by have:=of_decide_eq_true hb;omega):P:=g
theorem otf{P:Prop}(g:P:=by have:=of_decide_eq_false hb;omega):P:=g
theorem obq{P:Prop}(g:P:=by rw[Bool.eq_iff_iff,beq_iff_eq,beq_iff_eq];omega):P:=g
theorem osi{P:Prop}(g:P:=by simp):P:=g
theorem odc{P:Prop}(g:P:=by decide):P:=g
theorem onn{P:Prop}(g:P:=by(repeat rw[if_neg (by omega)])):P:=g
theorem oh{P:Prop}(g:P:=by(try simp only[Rl]);(repeat first | rw[if_pos rfl] | rw[if_pos trivial] | rw[if_neg (by omega)])):P:=g
theorem ohr{P:Prop}(g:P:=by(try simp only[Rl]);(repeat first | rw[if_pos rfl] | rw[if_pos trivial] | rw[if_neg (by omega)]);rfl):P:=g
theorem ohx{P:Prop}{Q:True→Prop}(k:Q trivial)(g:∀u,Wr (Q u)→P:=by intro _ hZ;(try simp only[Rl]);(repeat first | rw[if_pos rfl] | rw[if_pos trivial] | rw[if_neg (by omega)]);exact hZ.o):P:=g trivial ⟨k⟩
theorem kaa{P:Prop}(g:P:=by
 refine rg zs [4] ?_;refine ar ?_;refine congrArg (fun x=>ARes.val (AV.int .i64 x)) ?_;have z:decide (((p+1:Nat):Int)<(t.length:Int))=decide (p+1<t.length):=decide_eq_decide.2 om;have zc:∀k:Nat,(((c.toNat:Nat):Int)==(k:Int))=(c.toNat==k):=fun k=>obq;have zd:∀k:Nat,(((d.toNat:Nat):Int)==(k:Int))=(d.toNat==k):=fun k=>obq;have z1:=zc 60;have z2:=zc 62;have z3:=zc 33;have z4:=zc 61;have z5:=zc 94;have z6:=zc 40;have z7:=zc 41;have z8:=zd 61
 simp only[Int.cast_ofNat_Int]at z1 z2 z3 z4 z5 z6 z7 z8;clear zc zd e0 e1 hc hd;grind [signN]):P:=g
theorem kae{P:Prop}(g:P:=by
 rw[hoi];simp only[Option.map_some,Option.getD_some,Bool.and_eq_true,Bool.not_eq_true',Option.some.injEq];refine and_congr_right fun _=> ?_;constructor
 ·rintro h o rfl e he;unfold ZZ at he;obtain⟨ed,hed,rfl⟩:=List.mem_map.1 he;obtain⟨hm,hbind⟩:=List.mem_filter.1 hed;have:=Array.all_eq_true_iff_forall_mem.1 h ed (by simpa using hm);rw[←hdef ed.on (List.mem_map.2 ⟨ed,List.mem_filter.2 ⟨hm,hbind⟩,rfl⟩)];simpa [hbind]using this
 ·intro h;rw[Array.all_eq_true_iff_forall_mem];intro ed hm;cases hb:Region.binds .any ed with
  | false=>simp
  | true=>
    have hin:ed.on∈ZZ ops[i]:=List.mem_map.2 ⟨ed,List.mem_filter.2 ⟨by simpa using hm,hb⟩,rfl⟩;rw[hdef _ hin];simpa using h _ rfl ed.on hin):P:=g
theorem kaf{P:Prop}(g:P:=by
 refine rg zs [4,5,6] ?_;refine ar ?_;rw[hw];exact⟨_,rfl,.tup (.cons .nilsl (.cons (.kl trivial) (.cons (.kl trivial) .nil)))⟩):P:=g
theorem kah{P:Prop}(g:P:=by
 refine rg zs [4,5] ?_;refine ar ?_;rw[hz];exact⟨_,rfl,fun k hk=>oh,.kl ⟨trivial,trivial,trivial⟩⟩):P:=g
theorem kai{P:Prop}(g:P:=by
 have l3:(H2.put n2 (some (AObj.arr 0 2 [AV.agg [AV.int IntKind.i64 r.fst,a]]))) n=some (.arr 0 10 [Ze q]):=(Rk _ _ om).trans l1;refine dx zs [2,3,4] [.q,.q,.w [3,4,5,6],.q,.q,.q,.q,.q,.q,.q] [0,1,3,4,5,6,2,7,8,9] [0,1,6,2,3,4,5,7,8,9] fun K V=> ?_;refine cK func53 (Xa _ (by first | exact Nat.le_trans hq.to om | exact Nat.le_trans hq.frm om) _ _) ?_ ?_
 ·intro p H' n' hc;exact hc.pan.elim
 intro rr H5 n5 hc;obtain⟨js,hN⟩:=hc.got;have hs:=fun g=>hN.own.strip g;have l1:=(hN.low n om).trans l3;refine nz ?_;apply V;clear V K;refine ar ?_;rw[hz];rw[show∀m:Nat,decide ((0:Int)<(m:Int))=decide (0<m)from fun m=>decide_eq_decide.2 om];exact⟨_,js,rfl,RZ hN.own,hN.nd,fun k hk=>by have:=hN.lo k hk;omega,fun k hk=>by rw[hN.low k om,Rk _ _ om];exact hlo k hk,by have:=hN.nn;omega⟩):P:=g
theorem kaj{P:Prop}(g:P:=by
 refine rg zs [4,5,6] ?_;refine ar ?_;refine⟨_,rfl,fun k hk=> ?_,Frz.eq ?_ ?_⟩
 ·(try simp only[Rl]);(repeat first | rw[if_pos rfl] | rw[if_pos trivial] | rw[if_neg om]);first | done | exact hlow k hk
 ·first | (rw[hrr];rfl) | (rw[hrr,show decide ((q:Int)<(e:Int))=decide (q<e)from decide_eq_decide.2 om];rfl)
 ·exact⟨⟨trivial,trivial,trivial,trivial,trivial⟩,trivial,trivial,trivial⟩):P:=g
theorem kak{P:Prop}(g:P:=by
 have hlow1:∀k,k<n→H1 k=H k:=fun k hk=>(hlo1 k om om).trans oh;refine nz ?_;apply V;clear V K;refine ns ?_;refine⟨_,rfl,?_⟩
 (repeat' apply And.intro)<;>first | omega | (intro k hk;refine ohx ?_;exact hlow1 k hk) | ((try simp only[Rl]);(repeat first | rw[if_pos rfl] | rw[if_pos trivial] | rw[if_neg om]);first | done | rfl | exact b2 | exact b1)):P:=g
theorem kam{P:Prop}(g:P:=by
 refine rg zs [6] ?_;refine ar ?_;refine⟨_,rfl,fun k hk=>by first | exact hlow k hk | (try simp only[Rl]);(repeat first | rw[if_pos rfl] | rw[if_pos trivial] | rw[if_neg om]),Frz.eq (by rw[hre]) trivial⟩):P:=g
theorem kan{P:Prop}(g:P:=by
 split at hb
 ·split at hb
  ·rename_i _ _ hw;cases hb;exact⟨_,_,hw⟩
  ·simp at hb
 ·simp at hb):P:=g
theorem kap{P:Prop}(g:P:=by
 simp only[Array.getD_eq_getD_getElem?,Array.getElem?_setIfInBounds];by_cases e:k=i
 ·subst e;simp[hsz,h1]
 ·simp[Ne.symm e,e]):P:=g
theorem kaq{P:Prop}(g:P:=by
 have hlt:x<128:=otf;rw[QO hlt]at hbx;have hbl:b.length≤10:=by have:=congrArg List.length hbx;simp at this;omega
 refine ax ?_;apply hK1;refine Zg zs [2] fun K V=> ?_
 try simp only[go_sem,seval,XJ,Mr,List.length_map,List.take_length,Qz]
 repeat (first | (refine And.intro ?_ ?_;· first | exact⟨rfl,by simp[AV.sz,AV.memOK]⟩ | exact⟨om,.inr trivial,om,om⟩) | refine peel ?_)
 apply V;clear V K;refine ar ?_;rw[←hbx,List.take_of_length_le osi,List.map_append,List.length_append];exact⟨rfl,rfl⟩):P:=g
theorem kat{P:Prop}(g:P:=by
 rw[(RelF.len _ _ hr1).1,Rp (fun x hx=>hz x (List.mem_of_mem_take hx)),List.length_take,Nat.min_eq_left om]):P:=g
theorem kau{P:Prop}(g:P:=by
 have:i<ks.length:=by
   rcases Nat.lt_or_ge i ks.length with h | h
   ·exact h
   ·rw[List.getElem?_eq_none h]at hk;simp at hk
 exact⟨ops[i]'om,by simp[Array.getElem?_eq_getElem (show i<ops.size by omega)]⟩):P:=g
theorem kav{P:Prop}(g:P:=by
 intro H4 hag;have hb1:H4 (n+2*j)=some (.arr 0 1 [av]):=(hag _ om om).trans (by(try simp only[Rl]);simp);have hb2:H4 (n+2*j+1)=some (.arr 0 1 [Yn x3.1]):=(hag _ om om).trans (by(try simp only[Rl]);simp);exact .fn .nil (.cons (Vj hb1 om (hfz H4 fun k a1 a2=>(hag k a1 om).trans (by refine ohx ?_;rw[hl3 k om om];exact hl2 k om om))) (.cons (Vj hb2 om (.kl (Xu _ _))) .nil))):P:=g
theorem kax{P:Prop}(g:P:=by
 refine rg zs [6,7,8] ?_;refine ar ?_;refine⟨_,rfl,?_⟩;rw[hres];exact .tup (.cons .nilsl (.cons (.kl trivial) (.cons (.kl trivial) .nil)))):P:=g
theorem kaC{P:Prop}(g:P:=by
 refine ns ?_;exact⟨Rk _ _ om |>.trans (Rm _ _ _),by rw[Rm,hb];rfl,fun k hk=>oh,Nat.le_refl _,osi⟩):P:=g
theorem kaE{P:Prop}(g:P:=by
 refine rg zs [2,3] ?_;refine ar ?_;rw[hzz];exact⟨_,rfl,fun k hk=>oh,.tup (.cons (.agg (.cons (XW (by simp[h0])) (.cons (.kl trivial) (.cons .nilsl .nil)))) (.cons (.kl trivial) .nil))⟩):P:=g
theorem kaG{P:Prop}(g:P:=by
 refine ar ?_;have hF:YU q=c7++Zo q.whr:=by unfold YU;rw[hc7,hc6,hc5,hc4,htk,hc3,hc2,hc1,hb0]
 refine⟨_,rfl,fun k hk=>by rw[if_neg om,if_neg om];exact hS.low k hk,?_⟩;rw[hF,List.map_append];exact .osl (Rm _ _ _) om osi (by rw[List.drop_zero,List.take_of_length_le osi,←List.map_append];exact XM _ (Z4 _ _))):P:=g
theorem kaH{P:Prop}(g:P:=by
 rw[List.filter_filter];apply List.filter_congr;intro k _;rw[hget];by_cases e:k=i<;>simp[e]):P:=g
theorem kaI{P:Prop}(g:P:=by
 obtain⟨j,hj⟩:=List.mem_iff_getElem?.1 hv;have hjl:j<(ps.map fun p=>ε p.2).length:=by
   rcases Nat.lt_or_ge j (ps.map fun p=>ε p.2).length with h | h
   ·exact h
   ·rw[List.getElem?_eq_none (by simpa using h)]at hj;simp at hj
 rw[hsizes j _ v (List.getElem?_eq_getElem hjl) hj];exact(e6 _ (List.getElem_mem hjl)).1):P:=g
theorem kaJ{P:Prop}(g:P:=by
 exact absurd hb odc):P:=g
theorem kaL{P:Prop}(g:P:=by
 have:=RelT.of_map (c:=c) (ε:=ε) (ρv:=ρv) (ps.map (·.2)) (fun x hx=>hr x (by simp only[Op.operands];simpa using hx));simpa [List.map_map,Function.comp_def]using this):P:=g
theorem kaM{P:Prop}(g:P:=by
 rcases Nat.lt_or_ge q ops.size with h | h
 ·exact h
 ·rw[Array.getElem?_eq_none h]at ho;simp at ho):P:=g
theorem kaN{P:Prop}(g:P:=by
 cases h with
 | nk h=>subst hb;exact h.elim
 | nilsl=>cases hb
 | osl=>cases hb
 | agg=>cases hb
 | tup h=>
   cases hb;cases h with
   | cons h1 h2=>
     cases h2 with
     | cons h3 h4=>
       cases h4 with
       | cons h5 h6=>
         cases h6 with
         | nil=>cases h3 with | nk _=>cases h5 with | nk _=>exact⟨_,rfl,by simpa using h1⟩):P:=g
theorem kaO{P:Prop}(g:P:=by
 exact⟨_,rfl,fun k hk=>by(try simp only[Rl]);(repeat first | rw[if_pos rfl] | rw[if_pos trivial] | rw[if_neg om]);first | done | exact hlow k hk,.kl trivial⟩):P:=g
theorem kaP{P:Prop}(g:P:=by
 rw[PI,Op.equalIn];simp[Zc h]):P:=g
theorem kaR{P:Prop}(g:P:=by
 obtain⟨hH,e,els,rfl,hkl⟩:=hG k o hk;have ho:=hs.own k _ hH;simp only[ZR]at ho;simp only[Zm,AObj.ver,Ctx.lendC,hk,ho.1]at hb;simp at hb):P:=g
theorem kaS{P:Prop}(g:P:=by
 refine rg zs [4,5,6] ?_;refine ar ?_;rw[hres];rfl):P:=g
theorem kaT{P:Prop}(g:P:=by
 refine⟨_,rfl,?_,Frz.eq ?_ trivial⟩
 ·intro k hk;have h0:k≠n:=om
  simp[Heap.put,h0]
 rw[←hix]):P:=g
theorem kaU{P:Prop}(g:P:=by
 rintro q9 H' n' hc;exact hc.up (fun p9 he=>by rw[Yv he]at hr;exact hr) (Nat.le_refl _) (fun k _ _ _=>rfl)):P:=g
theorem kaV{P:Prop}(g:P:=by
 refine rg zs [6,7,8] ?_;refine ar ?_;rw[hres];exact OAns.emp (.tupII .nilsl) (fun k hk=>rfl) (Nat.le_refl _)):P:=g
theorem kaW{P:Prop}(g:P:=by
 rw[had]at ev;cases ev;have e2:(execOp (fun _=>tmps.getD a undef) ⟨none,.load t (.tmp 0),0, "",#[],none⟩).run P w= .ok (.value v2) w:=by simp[execOp,had,Instr.loadAt,Instr.sureAddr,hv2]
 rw[e2]at hrun;cases hrun;exact⟨hv2,hrel2⟩):P:=g
theorem kaX{P:Prop}(g:P:=by
 rcases Nat.lt_or_ge b w.heap.size with h | h
 ·exact h
 ·rw[Array.getElem?_eq_none h]at hx;simp at hx):P:=g
theorem kaZ{P:Prop}(g:P:=by
 refine ar ?_;refine⟨_,rfl,hlow,Frz.eq hr.symm ?_⟩;exact⟨trivial,trivial,trivial,trivial⟩):P:=g
theorem ka0{P:Prop}(g:P:=by
 rw[hla,Rp (fun y hy=>hz y (List.mem_of_mem_take hy)),List.length_take,Nat.min_eq_left om]):P:=g
theorem ka3{P:Prop}(g:P:=by
 simp only[Instr.buildSlice,Sem.run_bind,Zc hu,Result.andThen_ok,ZU hi];simp only[hsm,hne,if_false,Sem.run_ite,Sem.run_bind,zeroValue,typeInfo,run_program,hi,hz,Sem.run_pure,Result.andThen_ok,hfill,newRow,run_newObj];rfl):P:=g
theorem ka5{P:Prop}(g:P:=by
 refine rg zs [4,5,6] ?_;refine ar ?_;exact⟨_,rfl,fun k hk=>onn,by rw[hw];exact .kl ⟨trivial,trivial,trivial,trivial⟩⟩):P:=g
theorem ka7{P:Prop}(g:P:=by
 refine ns ?_;refine⟨⟨b++[UInt8.ofNat (x%128+128)],x/128,by rw[List.append_assoc];exact hbx,om,?_,?_⟩,by simp[iv];omega⟩
 ·rw[List.length_append];rfl
 ·rw[List.take_of_length_le osi,List.map_append,List.length_append];rfl):P:=g
theorem ka8{P:Prop}(g:P:=by
 rcases Nat.lt_or_ge k n with h | h
 ·exact h
 ·rw[hu k v h]at hk;simp at hk):P:=g
theorem ka9{P:Prop}(g:P:=by
 cases e with
 | returned v=>exact Frz.rel hst.sim hfrz hm
 | panicked _=>exact hm.elim
 | outgrown=>exact hm.elim):P:=g
theorem kbc{P:Prop}(g:P:=by
 refine rg zs [2,3] ?_;refine ar ?_;rw[hz];refine OAns.emp (RS (Sm .nilsl)) (fun k hk=> ?_) om;exact oh):P:=g
theorem kbe{P:Prop}(g:P:=by
 rw[hsplit]at hqr;rcases List.mem_append.1 hqr with h | h
 ·exact h
 ·rcases List.mem_cons.1 h with h | h
  ·subst h;omega
  ·have:=(List.pairwise_cons.1 hsort2.2.1).1 q h;omega):P:=g
theorem kbf{P:Prop}(g:P:=by
 refine⟨⟨i+1,om,?_,?_⟩,om⟩
 ·rw[hts,←List.append_assoc,←hd,List.length_append];simp[Zx];try rfl
 ·rw[hts,←List.append_assoc,←hd];exact hS.app (Zi (u64 (q.fams.getD i 0))) rfl om om):P:=g
theorem kbg{P:Prop}(g:P:=by
 rw[hsz];have:(Array.range (len*s)).map (z.cells[· %z.cells.size]!)=([]++(List.range (len*s)).map (z.cells[· %z.cells.size]!)).toArray:=by
   apply Array.ext';simp
 rw[this];exact ha):P:=g
theorem kbh{P:Prop}(g:P:=by
 rcases Nat.lt_or_ge i ops.size with h | h
 ·exact h
 ·rw[Array.getElem?_eq_none h]at ho;simp at ho):P:=g
theorem kbi{P:Prop}(g:P:=by
 refine ak ?_;apply hK4;refine rg1 zs [0,1,5] ?_;exact⟨⟨i+1,om,fun j hj=>(by rcases Nat.lt_or_ge j i with h9 | h9;exact hfa j h9;rw[show j=i by omega,←hx,←hy];exact hxy),rfl⟩,by omega⟩):P:=g
theorem kbk{P:Prop}(g:P:=by
 exact⟨f,x1.1,x1.2,v1,Yn x1.1,0,hr,om,om,hg1.1,rfl,h1,fun _ _=> .kl (Xu _ _),⟨Xd _,Xe _,Xf _,fun g=>YH g _⟩,fun k e1 e2 e3=>hl1 k e2 e3,rfl,om⟩):P:=g
theorem kbl{P:Prop}(g:P:=by
 intro c hc;obtain⟨j,hj,he⟩:=List.mem_iff_getElem.1 hc;have h9:=hfa j hj;rw[List.getD,List.getElem?_eq_getElem hj]at h9;simp only[Option.getD_some,he]at h9;simp[h9]):P:=g
theorem kbm{P:Prop}(g:P:=by
 unfold Wp;have i1:((97:Int)≤(b.toNat:Int))=(97≤b.toNat):=propext om
 have i2:((b.toNat:Int)≤122)=(b.toNat≤122):=propext om;by_cases h:97≤b.toNat<;>simp[h,i1,i2]):P:=g
theorem kbn{P:Prop}(g:P:=by
 apply hK7;refine rg1 zs [0,3,4,5,6,7] ?_;exact⟨⟨k+1,bitS y,om,(bitS_lt hy1 hy2).1,(bitS_lt hy1 hy2).2,by rw[hn];exact hyb,by rw[hB,w1 om]⟩,by rw[w1 om];simp;omega⟩):P:=g
theorem kbo{P:Prop}(g:P:=by
 unfold ZA;have i1:((48:Int)≤(b.toNat:Int))=(48≤b.toNat):=propext om
 have i2:((b.toNat:Int)≤57)=(b.toNat≤57):=propext om;by_cases h:48≤b.toNat<;>simp[h,i1,i2]):P:=g
theorem kbp{P:Prop}(g:P:=by
 refine rg zs [0,1,2] ?_;refine rg zs [6] ?_;refine ar ?_;unfold bout;by_cases h:x<lo<;>simp[h]):P:=g
theorem kbq{P:Prop}(g:P:=by
 rw[hz];exact⟨_,rfl,fun k hk=>oh,.kl trivial⟩):P:=g
theorem kbr{P:Prop}(g:P:=by
 apply hK8;refine rg1 zs [0,1,4,7,8] ?_;refine⟨⟨j+1,om,om,by rw[w1g hlt2 ht],?_,by rw[Jw hlt2 hso,hjx]⟩,by rw[w1g hlt2 ht];simp;omega⟩;rw[hsn]):P:=g
theorem kbs{P:Prop}(g:P:=by
 have:p<ks.length:=by rw[hc.len];exact hp
 simp[List.getD,List.getElem?_eq_getElem this]):P:=g
theorem kbx{P:Prop}(g:P:=by
 refine ar ?_;exact⟨_,rfl,fun k hk=>oh,Frz.eq rfl trivial⟩):P:=g
theorem kbz{P:Prop}(g:P:=by
 refine⟨⟨i+1,om,by rw[w1 om],om,?_,?_,hix⟩,by rw[w1 om];simp;omega⟩
 ·simp[hn1,hHn,Zh]
 ·intro k hk;have h0:k≠n1:=om
  simp[h0,hH k hk]):P:=g
theorem kbA{P:Prop}(g:P:=by
 rw[List.map_append,List.mem_append]at h2;rcases h2 with h2 | h2
 ·exact .inl ⟨h1,h2⟩
 ·simp at h2 hq2;exact absurd h2 hq2):P:=g
theorem kbD{P:Prop}(g:P:=by
 rw[if_pos hi]at hrr ⊢;have hm1:=isS_m ht hgo.p (by decide:110≠101) hi;have hm2:=hgo.m;exact⟨hrr,om,om,(L6 ht hgo.p odc).ri hRI2 (XH hi).1,om⟩):P:=g
theorem kbE{P:Prop}(g:P:=by
 have:Qn fs.length q.fams=false:=by unfold Qn;rw[List.all_eq_false];exact⟨i,List.mem_range.2 hlt,by rw[hf1];simp⟩
 unfold Yy;rw[this];simp):P:=g
theorem kbF{P:Prop}(g:P:=by
 exact⟨_,rfl,fun k hk=>oh,by rw[hf];exact .kl trivial⟩):P:=g
theorem kbG{P:Prop}(g:P:=by
 have e3:=g.g h1;exact⟨this.p,by have:=this.o;omega,om,fun hr=>by have:=this.g hr;omega,by have:=this.m;have:=g2.m;have:=g.m;omega⟩):P:=g
theorem kbH{P:Prop}(g:P:=by
 refine ns ?_;exact⟨⟨i+1,om,fun j hj=>by rcases Nat.lt_or_ge j i with q9 | q9;exact hno j q9;(obtain rfl:j=i:=om);exact hf1,by simp[Zx]⟩,om⟩):P:=g
theorem kbK{P:Prop}(g:P:=by
 rcases(by omega:i=0∨i=1∨i=2∨i=3∨i=4∨i=5∨i=6∨i=7∨i=8)with rfl | rfl | rfl | rfl | rfl | rfl | rfl | rfl | rfl<;>rfl):P:=g
theorem kbL{P:Prop}(g:P:=by
 rcases Nat.lt_or_ge 0 f with h0 | h0
 ·exact .inl (Nat.mul_le_mul om (Nat.pow_le_pow_right om om))
 ·exact .inr (Nat.mul_le_mul om (Nat.pow_le_pow_right om om))):P:=g
theorem kbO{P:Prop}(g:P:=by
 cases e with
 | returned v=>simp only[Rel,List.cons.injEq,and_true]at hm;rw[hm]
 | panicked _=>exact hm.elim
 | outgrown=>exact hm.elim):P:=g
theorem kbQ{P:Prop}(g:P:=by
 induction l with
 | nil=>exact Nat.zero_le _
 | cons c l ih=>simp only[List.foldr_cons];have:=h c osi;have:=ih fun x hx=>h x (by simp[hx]);omega):P:=g
theorem kbR{P:Prop}(g:P:=by
 refine ar ?_;refine⟨by simp[Zo],?_⟩;funext k;simp only[Rl];by_cases hk:k=n
 ·simp[hk,Zo,List.take_of_length_le]
 ·simp[hk]):P:=g
theorem kbT{P:Prop}(g:P:=by
 exact⟨⟨i+1,om,fun j hj=>(by rcases Nat.lt_or_ge j i with h9 | h9;exact hfa j h9;rw[show j=i by omega];exact hno),rfl,hlow⟩,by omega⟩):P:=g
theorem kbU{P:Prop}(g:P:=by
 have:=JW _ _ e3;have e:List.range' 0 (ps.map fun p=>ρv p.2).length=ps.map (·.1):=by rw[this];simp
 rw[e,List.zip_map']):P:=g
theorem kbV{P:Prop}(g:P:=by
 refine⟨fun e=> ?_,fun e=> ?_,fun e=> ?_⟩
 ·rw[e,hS.ho]at V;cases V
 ·rw[e,hS.hw]at V;cases V
 ·rw[e,hS.ht]at V;cases V):P:=g
theorem kbW{P:Prop}(g:P:=by
 rw[←hrr];exact⟨_,rfl,frz_ndl _ _ _ _ ((Rk _ _ om).trans hB) om rfl,rfl,fun k h1 h2=>by(repeat rw[if_neg om]);exact hlow k h1 h2⟩):P:=g
theorem kbX{P:Prop}(g:P:=by
 induction l with
 | nil=>cases h
 | cons d l ih=>
   simp only[List.foldr_cons];rcases List.mem_cons.1 h with rfl | h
   ·omega
   ·have:=ih h;omega):P:=g
theorem kbY{P:Prop}(g:P:=by
 rw[List.drop_zero,List.take_length]at h9;refine fw func23 ntmps23 results23 ?_;refine rg zs [0] ?_;refine rc zs [2] func58 (h9) ?_;refine ar ?_;trivial):P:=g
theorem kb4{P:Prop}(g:P:=by
 intro p H' n' hc;obtain⟨_,_,hr⟩:=hc;cases hr):P:=g
theorem kb5{P:Prop}(g:P:=by
 rintro q9 H' n' hc;exact hc.up (fun p9 he=>by rw[Yv he]at hr;exact hr) om (fun k e1 e2 e3=>(hl2 k e2 e3).trans (hlow k e1 e2 e3))):P:=g
theorem kb6{P:Prop}(g:P:=by
 subst e;simp[AV.sz,Value.oneCell']):P:=g
theorem kb9{P:Prop}(g:P:=by
 exact of_decide_eq_true (List.all_eq_true.1 this e he)):P:=g
theorem kca{P:Prop}(g:P:=by
 simp only[Rel]at hr ⊢;simp only[AV.kl]at hk;obtain⟨b,cap,esz,hl,e⟩:=hr;exact⟨b,cap,esz,h.ρ hk hl,e⟩):P:=g
theorem kcb{P:Prop}(g:P:=by
 rcases List.mem_cons.1 hx with rfl | hx
 ·rw[←hw.1.1];exact h a osi
 ·exact hw.2.szAll (fun y hy=>h y (by simp[hy])) x hx):P:=g
theorem kcc{P:Prop}(g:P:=by
 intro k e1 e2 e3
 try simp only[Rl]
 (repeat rw[if_neg om])
 rw[hl3 k e2 e3,hl2 k e2 e3];exact hlow k e1 e2 e3):P:=g
theorem kcf{P:Prop}(g:P:=by
 exact⟨by rw[List.length_append];rfl,by rw[avs_snoc],rfl,fun k h1 h2=>by(repeat rw[if_neg om]);exact hlow k h1 h2,om⟩):P:=g
theorem kch{P:Prop}(g:P:=by
 have g2:=QW ht g1.1 (w:=y.1) (s':=y.2) h2;exact(g1.trans g2).trans (Np ht odc g2.1 (w:=z.1) (s':=z.2) h3)):P:=g
theorem kci{P:Prop}(g:P:=by
 refine⟨_,rfl,?_,Frz.eq ?_ trivial⟩
 ·intro k hk;have h0:k≠n1:=om
  simp[Heap.put,h0,hH k hk]
 rw[←hix]):P:=g
theorem kcj{P:Prop}(g:P:=by
 exact⟨_,rfl,fun k hk=>by rw[if_neg om],Frz.eq rfl trivial⟩):P:=g
theorem kck{P:Prop}(g:P:=by
 simp only[List.length_append,List.length_cons]at*;omega):P:=g
theorem kcl{P:Prop}(g:P:=by
 refine ar ?_;exact⟨_,rfl,fun k hk=>by rw[if_neg om],Frz.eq (by first | rw[if_pos p1] | rw[if_neg p1]) trivial⟩):P:=g
theorem kcm{P:Prop}(g:P:=by
 subst e;rw[Rm]at hk';simp at hk'):P:=g
theorem kcn{P:Prop}(g:P:=by
 rw[List.getElem?_zip_eq_some];exact⟨by simpa using ho,hk⟩):P:=g
theorem kco{P:Prop}(g:P:=by
 unfold HG at hk;split at hk
 ·rename_i e;subst e;cases hk;simp[Zm,AObj.ver,cG]at hb
 ·simp at hk):P:=g
theorem kcp{P:Prop}(g:P:=by
 have hpr:p∈Z8 ord listed:=by rw[hsplit];simp[hp]
 exact⟨hsort2.2.2 p hp i osi,(hmem p).1 hpr⟩):P:=g
theorem kcr{P:Prop}(g:P:=by
 rcases Nat.lt_or_ge b w.heap.size with h | h
 ·exact h
 ·rw[Array.getElem?_eq_none h]at hw;simp at hw):P:=g
theorem kct{P:Prop}(g:P:=by
 rename_i a' hr;cases hb;exact hs.ro b _ hr):P:=g
theorem kcv{P:Prop}(g:P:=by
 have h7:c.toNat%128*2^(7*(8-g))≤127*2^(7*(8-g)):=Nat.mul_le_mul_right _ om;omega):P:=g
theorem kcw{P:Prop}(g:P:=by
 refine ar ?_;exact⟨_,rfl,fun k hk=>by rw[if_neg om],Frz.eq (by cases a.holds c<;>rfl) trivial⟩):P:=g
theorem kcx{P:Prop}(g:P:=by
 simp only[Rel]at hr ⊢;obtain⟨b,cap,esz,hk,e⟩:=hr;exact⟨b,cap,esz,h.ρ hk,e⟩):P:=g
theorem kcy{P:Prop}(g:P:=by
 exact⟨0,Nat.zero_le _,fun j h=>om,rfl,rfl,rfl⟩):P:=g
theorem kcz{P:Prop}(g:P:=by
 refine rg1 zs [1,2,5] ?_;refine⟨⟨i+1,om,by rw[w1 om],hix⟩,by rw[w1 om];simp;omega⟩):P:=g
theorem kcB{P:Prop}(g:P:=by
 refine⟨_,rfl,?_,Frz.eq (by rw[hres]) trivial⟩;intro k hk;have h0:k≠n:=om
 exact hH k hk):P:=g
theorem kcC{P:Prop}(g:P:=by
 rcases h2 with h2 | h2
 ·exact(hs0.own k o (by rw[←h2];exact hk)).kl hu
 ·exact h2 o hk):P:=g
theorem kcD{P:Prop}(g:P:=by
 rename_i hw;rw[if_neg hw]at h;exact ih _ _ h):P:=g
theorem kcE{P:Prop}(g:P:=by
 rw[Array.getD_eq_getD_getElem?,Array.getElem?_append_left (by simpa [hl]using ht)];simp[hv]):P:=g
theorem kcF{P:Prop}(g:P:=by
 rw[e p.2 (by simp;exact⟨p.1,by simpa using hp⟩)]):P:=g
theorem kcH{P:Prop}(g:P:=by
 refine ns ?_
 (rw[hb];first | exact⟨rfl,rfl,rfl⟩ | exact⟨rfl,rfl⟩ | rfl | skip)):P:=g
theorem kcI{P:Prop}(g:P:=by
 rcases Nat.lt_or_ge k n with h | h
 ·exact h
 ·rw[hnone k h]at hk;simp at hk):P:=g
theorem kcJ{P:Prop}(g:P:=by
 cases e<;>first | exact Yl live hq | exact hq):P:=g
theorem kcM{P:Prop}(g:P:=by
 have h1:=h.anti a b;have h2:=h.anti b a;omega):P:=g
theorem kcN{P:Prop}(g:P:=by
 rintro q9 H' n' hc;exact hc.up (fun p9 he=>by rw[Yv he]at hr;exact hr) om hlow):P:=g
theorem kcO{P:Prop}(g:P:=by
 simp[show decide ((1099511627776:Int)<(u.1:Int))=true from decide_eq_true om]at hb):P:=g
theorem kcP{P:Prop}(g:P:=by
 cases decide (0≤Lib.compareBytes row q.frm)<;>cases decide (q.to.length=0)<;>simp):P:=g
theorem kcQ{P:Prop}(g:P:=by
 exact absurd hb osi):P:=g
theorem kcR{P:Prop}(g:P:=by
 simp only[h2,Bool.false_eq_true,if_false];exact swap_q hoi hoj h1 h2 hap h):P:=g
theorem kad{P:Prop}{Q:True→Prop}(k:Q trivial)(g:∀u,Wr (Q u)→P:=by
 intro _ hZ
 repeat refine peel ?_
 apply V;exact hZ.o):P:=g trivial ⟨k⟩
theorem kag{P:Prop}{Q:True→Prop}(k:Q trivial)(g:∀u,Wr (Q u)→P:=by
 intro _ hZ;refine rg zs [4] ?_;refine ar ?_;exact hZ.o):P:=g trivial ⟨k⟩
theorem kal{P:Prop}{Q:True→Prop}(k:Q trivial)(g:∀u,Wr (Q u)→P:=by
 intro _ hZ;refine rg zs [2] ?_;refine ar ?_;exact hZ.o):P:=g trivial ⟨k⟩
theorem kao{P:Prop}{Q:True→Prop}(k:Q trivial)(g:∀u,Wr (Q u)→P:=by
 intro _ hZ
 try simp only[go_sem,seval,hszq,hagq,hmoq,hszp,hagp,hmop,b1,b2,g1,g2,g3,s2,s3,s4,u2,u3,u4,hn0,pgAV,Zf,bys,Nat.add_assoc,List.length_map,Int.toNat_natCast,f9,hpl,Option.getD_some,Option.getD_none]
 exact hZ.o):P:=g trivial ⟨k⟩
theorem kas{P:Prop}{Q:True→Prop}(k:Q trivial)(g:∀u,Wr (Q u)→P:=by
 intro _ hZ;apply V;exact hZ.o):P:=g trivial ⟨k⟩
theorem kaw{P:Prop}{Q:True→Prop}(k:Q trivial)(g:∀u,Wr (Q u)→P:=by
 intro _ hZ;refine Ret.fin ?_;refine fw func124 ntmps124 results124 ?_;refine rg zs [3,4,5] ?_;exact hZ.o):P:=g trivial ⟨k⟩
theorem kay{P:Prop}{Q:True→Prop}(k:Q trivial)(g:∀u,Wr (Q u)→P:=by
 intro _ hZ;refine ak ?_;apply hK1;exact hZ.o):P:=g trivial ⟨k⟩
theorem kaz{P:Prop}{Q:True→Prop}(k:Q trivial)(g:∀u,Wr (Q u)→P:=by
 intro _ hZ;refine rg zs [3,4,5,12] ?_;refine Zq ?_;refine rg zs [3,4,5,12,13] ?_;exact hZ.o):P:=g trivial ⟨k⟩
theorem kaB{P:Prop}{Q:True→Prop}(k:Q trivial)(g:∀u,Wr (Q u)→P:=by
 intro _ hZ
 try simp only[go_sem,seval,Int.toNat_natCast,hn1,hHn]
 repeat refine peel ?_
 exact hZ.o):P:=g trivial ⟨k⟩
theorem kaD{P:Prop}{Q:True→Prop}(k:Q trivial)(g:∀u,Wr (Q u)→P:=by
 intro _ hZ
 try simp only[go_sem,seval,hsz,hag,hmo,hs,f1,f2,f3,f4,f5,f6,g1,r1,r2,Yr,Ya,List.length_map,e9]
 exact hZ.o):P:=g trivial ⟨k⟩
theorem kaK{P:Prop}{Q:True→Prop}(k:Q trivial)(g:∀u,Wr (Q u)→P:=by
 intro _ hZ;refine ar ?_;refine⟨_,rfl,fun k hk=>by rw[if_neg om],Frz.eq ?_ trivial⟩;exact hZ.o):P:=g trivial ⟨k⟩
theorem kaQ{P:Prop}{Q:True→Prop}(k:Q trivial)(g:∀u,Wr (Q u)→P:=by
 intro _ hZ;refine ak ?_;apply hK2;exact hZ.o):P:=g trivial ⟨k⟩
theorem kaY{P:Prop}{Q:True→Prop}(k:Q trivial)(g:∀u,Wr (Q u)→P:=by
 intro _ hZ
 try simp only[go_sem,seval,hszq,hagq,hmoq,hszp,hagp,hmop,b1,b2,g1,g2,g3,s2,s3,s4,u2,u3,u4,hn0,pgAV,Zf,bys,Nat.add_assoc,List.length_map,Int.toNat_natCast,Bool.not_true]
 exact hZ.o):P:=g trivial ⟨k⟩
theorem ka1{P:Prop}{Q:True→Prop}(k:Q trivial)(g:∀u,Wr (Q u)→P:=by
 intro _ hZ;simp only[YO,List.find?,List.isPrefixOf,e];unfold signN;simp only[show(33:UInt8).toNat=33 from rfl,show(61:UInt8).toNat=61 from rfl,show(60:UInt8).toNat=60 from rfl,show(62:UInt8).toNat=62 from rfl,show(94:UInt8).toNat=94 from rfl,show(40:UInt8).toNat=40 from rfl,show(41:UInt8).toNat=41 from rfl];exact hZ.o):P:=g trivial ⟨k⟩
theorem ka4{P:Prop}{Q:True→Prop}(k:Q trivial)(g:∀u,Wr (Q u)→P:=by
 intro _ hZ
 try simp only[go_sem,seval,e0,hS,hx,List.length_map,Int.toNat_natCast,Xw,e1,e2]
 exact hZ.o):P:=g trivial ⟨k⟩
theorem ka6{P:Prop}{Q:True→Prop}(k:Q trivial)(g:∀u,Wr (Q u)→P:=by
 intro _ hZ
 try simp only[go_sem,seval,hszs,hszb,Xd,Xe,Xf,YH,hav1,hav2,hav3,hav4,g1,g2]
 exact hZ.o):P:=g trivial ⟨k⟩
theorem kba{P:Prop}{Q:True→Prop}(k:Q trivial)(g:∀u,Wr (Q u)→P:=by
 intro _ hZ;refine ak ?_;apply hK3;exact hZ.o):P:=g trivial ⟨k⟩
theorem kbb{P:Prop}{Q:True→Prop}(k:Q trivial)(g:∀u,Wr (Q u)→P:=by
 intro _ hZ
 try simp only[go_sem,seval,hszs,hags,hmos,Nat.add_assoc,f1,f2,f3,f4,hR1,hO1,c2,g1,g2,g3,g4,hnth,hx,wdAV,List.length_map,Int.toNat_natCast]
 exact hZ.o):P:=g trivial ⟨k⟩
theorem kbj{P:Prop}{Q:True→Prop}(k:Q trivial)(g:∀u,Wr (Q u)→P:=by
 intro _ hZ;refine ar ?_;rw[hr];refine⟨_,rfl,fun k hk=>onn,.tup (.cons ?_ (.cons (.kl trivial) .nil))⟩;exact hZ.o):P:=g trivial ⟨k⟩
theorem kbt{P:Prop}{Q:True→Prop}(k:Q trivial)(g:∀u,Wr (Q u)→P:=by
 intro _ hZ
 try simp only[go_sem,seval,List.length_map,k4,k8,k12,m4,m8,m0,m12,e2,e3,Option.getD_some,Int.toNat_natCast,List.drop_zero]
 exact hZ.o):P:=g trivial ⟨k⟩
theorem kbu{P:Prop}{Q:True→Prop}(k:Q trivial)(g:∀u,Wr (Q u)→P:=by
 intro _ hZ
 try simp only[go_sem,seval,e0,hS,hx,List.length_map,Int.toNat_natCast,Xw,e1,e2,←hd,←he,ha2,hb3,hex16 hal hbl]
 exact hZ.o):P:=g trivial ⟨k⟩
theorem kby{P:Prop}{Q:True→Prop}(k:Q trivial)(g:∀u,Wr (Q u)→P:=by
 intro _ hZ
 try simp only[go_sem,seval,hW,hB,f1,f2,Int.toNat_natCast,←hc]
 exact hZ.o):P:=g trivial ⟨k⟩
theorem kbJ{P:Prop}{Q:True→Prop}(k:Q trivial)(g:∀u,Wr (Q u)→P:=by
 intro _ hZ
 try simp only[go_sem,seval,List.length_map,k4,k8,k12,m4,m8,m0,m12,j3,j4,e6,Option.getD_some,Int.toNat_natCast]
 exact hZ.o):P:=g trivial ⟨k⟩
theorem kbM{P:Prop}{Q:True→Prop}(k:Q trivial)(g:∀u,Wr (Q u)→P:=by
 intro _ hZ;refine Zq ?_;exact hZ.o):P:=g trivial ⟨k⟩
theorem kbP{P:Prop}{Q:True→Prop}(k:Q trivial)(g:∀u,Wr (Q u)→P:=by
 intro _ hZ
 try simp only[go_sem,seval,List.length_map,e2,k1,k2,k3,k4,m1,m2,m3,m4,Option.getD_some,Int.toNat_natCast]
 exact hZ.o):P:=g trivial ⟨k⟩
theorem kbS{P:Prop}{Q:True→Prop}(k:Q trivial)(g:∀u,Wr (Q u)→P:=by
 intro _ hZ;rw[←List.length_append];exact hZ.o):P:=g trivial ⟨k⟩
theorem kb1{P:Prop}{Q:True→Prop}(k:Q trivial)(g:∀u,Wr (Q u)→P:=by
 intro _ hZ;refine rg zs [0,1] ?_;exact hZ.o):P:=g trivial ⟨k⟩
theorem kb3{P:Prop}{Q:True→Prop}(k:Q trivial)(g:∀u,Wr (Q u)→P:=by
 intro _ hZ;refine ak ?_;apply hK4;exact hZ.o):P:=g trivial ⟨k⟩
theorem kb7{P:Prop}{Q:True→Prop}(k:Q trivial)(g:∀u,Wr (Q u)→P:=by
 intro _ hZ
 try simp only[go_sem,seval,e0,hS,hx,List.length_map,Int.toNat_natCast,Xw,e1,e2,←hd,←he]
 exact hZ.o):P:=g trivial ⟨k⟩
theorem kb8{P:Prop}{Q:True→Prop}(k:Q trivial)(g:∀u,Wr (Q u)→P:=by
 intro _ hZ
 try simp only[go_sem,seval,List.length_map,ruAV,Ya,hum,List.length_drop,List.length_take,e3,e4]
 exact hZ.o):P:=g trivial ⟨k⟩
theorem kcu{P:Prop}{Q:True→Prop}(k:Q trivial)(g:∀u,Wr (Q u)→P:=by
 intro _ hZ;refine rg zs [0] ?_;exact hZ.o):P:=g trivial ⟨k⟩
theorem kcA{P:Prop}{Q:True→Prop}(k:Q trivial)(g:∀u,Wr (Q u)→P:=by
 intro _ hZ
 try simp only[go_sem,seval,List.length_map,fdiv8',fdiv16',fdiv24',XJ,e0,e8]
 exact hZ.o):P:=g trivial ⟨k⟩
theorem kcG{P:Prop}{Q:True→Prop}(k:Q trivial)(g:∀u,Wr (Q u)→P:=by
 intro _ hZ
 try simp only[go_sem,seval,hszs,hags,hmos,Nat.add_assoc,f1,f2,f3,f4,hR1,wdAV]
 exact hZ.o):P:=g trivial ⟨k⟩
theorem kcS{P:Prop}{Q:True→Prop}(k:Q trivial)(g:∀u,Wr (Q u)→P:=by
 intro _ hZ;refine cg func68 (fun _=>(by apply Vs<;>first | assumption | omega)) ?_;exact hZ.o):P:=g trivial ⟨k⟩
end Go
namespace Go.Sx
open Go
inductive AV where
 | int (k:IntKind) (n:Int)
 | bool (b:Bool)
 | str (s:List UInt8)
 | nilp
 | rp (d:AV)
 | loc (k ver off i:Nat) (path:List Nat)
 | nilsl
 | sl (esz:Nat) (xs:List AV)
 | osl (k ver off len:Nat)
 | agg (fs:List AV)
 | tup (vs:List AV)
 | fn (f:Fn) (first captured:List AV)
 | nilf
 | nilm
 | omap (k:Nat)
 | nili
 | iface (t:TypeId) (v:AV)
 | opt (g:Bool) (v:AV)
 | raw (v:Value)
 | junk
 deriving Inhabited
inductive Loc where
 | nil
 | blk (b cap esz:Nat)
structure Ctx where
 ρ:Nat→Nat→Option Loc
 ro:Nat→Option (Array Value)
structure Ctx.le(c c':Ctx):Prop where
 ρ:∀{k v l},c.ρ k v=some l→c'.ρ k v=some l
 ro:∀{b a},c.ro b=some a→c'.ro b=some a
theorem Ctx.le.refl(c:Ctx):c.le c:=⟨fun h=>h,fun h=>h⟩
theorem Ctx.le.trans{a b c:Ctx}(h:a.le b)(h':b.le c):a.le c:=⟨fun x=>h'.ρ (h.ρ x),fun x=>h'.ro (h.ro x)⟩
def At(arr:Array Value)(off:Nat)(ds:List Value):Prop:=∀(j:Nat) v,ds[j]? =some v→arr[off+j]? =some v
theorem At.nil{arr:Array Value}{off:Nat}:At arr off []:=fun j v h=>by simp at h
theorem At.append{arr:Array Value}{off:Nat}{a b:List Value}:At arr off (a++b)↔At arr off a∧At arr (off+a.length) b:=by
 constructor
 ·intro h;refine⟨fun j v hj=>h j v ?_,fun j v hj=> ?_⟩
  ·have hlt : j < a.length := by
     rcases Nat.lt_or_ge j a.length with h' | h'
     ·exact h'
     ·rw[List.getElem?_eq_none h']at hj;simp at hj
   rw[List.getElem?_append_left hlt];exact hj
  ·have:=h (a.length+j) v (by rw[List.getElem?_append_right (Nat.le_add_right _ _)];simpa using hj)
   rwa [←Nat.add_assoc]at this
 ·rintro⟨h1,h2⟩ j v hj;rcases Nat.lt_or_ge j a.length with h' | h'
  ·rw[List.getElem?_append_left h']at hj;exact h1 j v hj
  ·rw[List.getElem?_append_right h']at hj;have:=h2 _ v hj
   rwa [show off+a.length+(j-a.length)=off+j from by omega]at this
theorem At.zero{arr:Array Value}{ds:List Value}:At arr 0 ds↔∃post,arr.toList=ds++post:=by
 constructor
 ·intro h;refine⟨arr.toList.drop ds.length,?_⟩;apply List.ext_getElem?;intro j;rcases Nat.lt_or_ge j ds.length with hj | hj
  ·rw[List.getElem?_append_left hj];have:=h j ds[j] (List.getElem?_eq_getElem hj);rw[List.getElem?_eq_getElem hj];simpa using this
  ·rw[List.getElem?_append_right hj,List.getElem?_drop];congr 1;omega
 ·rintro⟨post,hp⟩ j v hj;have hlt:j<ds.length:=by
    rcases Nat.lt_or_ge j ds.length with h | h
    ·exact h
    ·rw[List.getElem?_eq_none h]at hj;simp at hj
  have:arr.toList[j]? =some v:=by rw[hp,List.getElem?_append_left hlt];exact hj
  simpa using this
theorem At.self{arr:Array Value}{ds:List Value}(h:arr.toList=ds):At arr 0 ds:=At.zero.2 ⟨[],by simp[h]⟩
mutual
def AV.sz:AV→Nat
 | .agg fs=>AV.szs fs
 | _=>1
def AV.szs:List AV→Nat
 | []=>0
 | f::fs=>f.sz+AV.szs fs
end
mutual
def Rel(c:Ctx):AV→Bool→List Value→Prop
 | .int k n,_,cs=>cs=[.int k n]
 | .bool b,_,cs=>cs=[.bool b]
 | .str s,_,cs=>cs=[.string ⟨s.toArray⟩]
 | .nilp,_,cs=>cs=[.pointer none]
 | .rp d,_,cs=>∃b off arr ds,cs=[.pointer (some ⟨b,off,none⟩)]∧c.ro b=some arr∧Rel c d true ds∧At arr off ds
 | .loc k ver off _ _,_,cs=>∃b cap esz,c.ρ k ver=some (.blk b cap esz)∧cs=[.pointer (some ⟨b,off,none⟩)]
 | .nilsl,_,cs=>cs=[.slice none 0 0]
 | .sl esz xs,_,cs=>∃a cap,cs=[.slice a xs.length cap]∧xs.length≤cap∧(∀x∈xs,x.sz=esz)∧(xs=[]∨∃b off arr ds,a=some ⟨b,off,none⟩∧c.ro b=some arr∧RelF c xs ds∧At arr off ds)
 | .osl k ver off len, _, cs => ∃ l, c.ρ k ver = some l ∧ match l with
     | .nil=>off=0∧len=0∧cs=[.slice none 0 0]
     | .blk b cap esz=>∃cp o',len≤cp∧off+cp=cap∧(cp=0∨o'=off*esz)∧cs=[.slice (some ⟨b,o',none⟩) len cp]
 | .agg fs,true,cs=>RelF c fs cs
 | .agg fs,false,cs=>∃arr:Array Value,cs=[.agg arr]∧RelF c fs arr.toList
 | .tup vs,false,cs=>∃arr:Array Value,cs=[.tuple arr]∧RelT c vs arr.toList
 | .tup _,true,_=>False
 | .fn f first captured,_,cs=>∃fv cv:Array Value,cs=[.func f fv cv]∧RelT c first fv.toList∧RelT c captured cv.toList
 | .nilf,_,cs=>cs=[.nilFunc]
 | .nilm,_,cs=>cs=[.map none]
 | .omap k,_,cs=>∃b cap esz,c.ρ k 0=some (.blk b cap esz)∧cs=[.map (some b)]
 | .nili,_,cs=>cs=[.nilIface]
 | .iface t v,_,cs=>∃x,cs=[.iface t x]∧Rel c v false [x]
 | .opt g v,false,cs=>(g=true∧Rel c v false cs)∨(g=false∧cs=[undef])
 | .opt _ _,true,_=>False
 | .raw v,m,cs=>cs=[v]∧(m=true→v.oneCell'=true)
 | .junk,m,cs=>∃v,cs=[v]∧(m=true→v.oneCell'=true)
def RelF(c:Ctx):List AV→List Value→Prop
 | [],cs=>cs=[]
 | f::fs,cs=>∃c1 c2,cs=c1++c2∧Rel c f true c1∧RelF c fs c2
def RelT(c:Ctx):List AV→List Value→Prop
 | [],vs=>vs=[]
 | f::fs,vs=>∃v r,vs=v::r∧Rel c f false [v]∧RelT c fs r
end
mutual
theorem Rel.mono{c c':Ctx}(h:c.le c'):∀(av:AV) (m:Bool) (cs:List Value),Rel c av m cs→Rel c' av m cs
 | .int _ _,_,_,hr=>by simpa [Rel]using hr
 | .bool _,_,_,hr=>by simpa [Rel]using hr
 | .str _,_,_,hr=>by simpa [Rel]using hr
 | .nilp,_,_,hr=>by simpa [Rel]using hr
 | .rp d,_,_,hr=>by
   simp only[Rel]at hr ⊢;obtain⟨b,off,arr,ds,e,hb,hd,ha⟩:=hr;exact⟨b,off,arr,ds,e,h.ro hb,Rel.mono h d _ _ hd,ha⟩
 | .loc _ _ _ _ _,_,_,hr=>by
   exact kcx
 | .nilsl,_,_,hr=>by simpa [Rel]using hr
 | .sl _ xs,_,_,hr=>by
   simp only[Rel]at hr ⊢;obtain⟨a,cap,e,hc,hz,hx⟩:=hr;refine⟨a,cap,e,hc,hz,hx.imp id ?_⟩;rintro⟨b,off,arr,ds,e1,hb,hd,ha⟩;exact⟨b,off,arr,ds,e1,h.ro hb,RelF.mono h xs _ hd,ha⟩
 | .osl _ _ _ _,_,_,hr=>by
   simp only[Rel]at hr ⊢;obtain⟨l,hk,hl⟩:=hr;exact⟨l,h.ρ hk,hl⟩
 | .agg fs,true,_,hr=>by simp only[Rel]at hr ⊢;exact RelF.mono h fs _ hr
 | .agg fs,false,_,hr=>by
   simp only[Rel]at hr ⊢;obtain⟨arr,e,hf⟩:=hr;exact⟨arr,e,RelF.mono h fs _ hf⟩
 | .tup vs,false,_,hr=>by
   simp only[Rel]at hr ⊢;obtain⟨arr,e,hf⟩:=hr;exact⟨arr,e,RelT.mono h vs _ hf⟩
 | .tup _,true,_,hr=>by simp[Rel]at hr
 | .fn _ a b,_,_,hr=>by
   simp only[Rel]at hr ⊢;obtain⟨fv,cv,e,h1,h2⟩:=hr;exact⟨fv,cv,e,RelT.mono h a _ h1,RelT.mono h b _ h2⟩
 | .nilf,_,_,hr=>by simpa [Rel]using hr
 | .nilm,_,_,hr=>by simpa [Rel]using hr
 | .omap _,_,_,hr=>by
   exact kcx
 | .nili,_,_,hr=>by simpa [Rel]using hr
 | .iface _ v,_,_,hr=>by
   simp only[Rel]at hr ⊢;obtain⟨x,e,hx⟩:=hr;exact⟨x,e,Rel.mono h v _ _ hx⟩
 | .opt _ v,false,_,hr=>by
   simp only[Rel]at hr ⊢;exact hr.imp (fun⟨a,b⟩=>⟨a,Rel.mono h v _ _ b⟩) id
 | .opt _ _,true,_,hr=>by simp[Rel]at hr
 | .raw _,_,_,hr=>by simpa [Rel]using hr
 | .junk,_,_,hr=>by simpa [Rel]using hr
theorem RelF.mono{c c':Ctx}(h:c.le c'):∀(fs:List AV) (cs:List Value),RelF c fs cs→RelF c' fs cs
 | [],_,hr=>by simpa [RelF]using hr
 | f::fs,_,hr=>by
   simp only[RelF]at hr ⊢;obtain⟨c1,c2,e,h1,h2⟩:=hr;exact⟨c1,c2,e,Rel.mono h f _ _ h1,RelF.mono h fs _ h2⟩
theorem RelT.mono{c c':Ctx}(h:c.le c'):∀(fs:List AV) (cs:List Value),RelT c fs cs→RelT c' fs cs
 | [],_,hr=>by simpa [RelT]using hr
 | f::fs,_,hr=>by
   simp only[RelT]at hr ⊢;obtain⟨v,r,e,h1,h2⟩:=hr;exact⟨v,r,e,Rel.mono h f _ _ h1,RelT.mono h fs _ h2⟩
end
mutual
theorem Rel.len{c:Ctx}:∀(av:AV) (cs:List Value),Rel c av true cs→cs.length=av.sz∧∀v∈cs,v.oneCell'=true
 | .int _ _,_,hr=>by simp only[Rel]at hr;subst hr;simp[AV.sz,Value.oneCell']
 | .bool _,_,hr=>by simp only[Rel]at hr;subst hr;simp[AV.sz,Value.oneCell']
 | .str _,_,hr=>by simp only[Rel]at hr;subst hr;simp[AV.sz,Value.oneCell']
 | .nilp,_,hr=>by simp only[Rel]at hr;subst hr;simp[AV.sz,Value.oneCell']
 | .rp d,_,hr=>by
   simp only[Rel]at hr;obtain⟨b,off,arr,ds,e,hb,hd,ha⟩:=hr;exact kb6
 | .loc _ _ _ _ _,_,hr=>by
   simp only[Rel]at hr;obtain⟨b,cap,esz,hk,e⟩:=hr;exact kb6
 | .nilsl,_,hr=>by simp only[Rel]at hr;subst hr;simp[AV.sz,Value.oneCell']
 | .sl _ xs,_,hr=>by
   simp only[Rel]at hr;obtain⟨a,cap,e,_⟩:=hr;exact kb6
 | .osl _ _ _ _,_,hr=>by
   simp only[Rel]at hr;obtain⟨l,hk,hl⟩:=hr;cases l with
   | nil=>obtain⟨_,_,e⟩:=hl;subst e;simp[AV.sz,Value.oneCell']
   | blk b cap esz=>obtain⟨_,_,_,_,_,e⟩:=hl;subst e;simp[AV.sz,Value.oneCell']
 | .agg fs,_,hr=>by simp only[Rel]at hr;simp only[AV.sz];exact RelF.len fs _ hr
 | .tup _,_,hr=>by simp[Rel]at hr
 | .fn _ a b,_,hr=>by
   simp only[Rel]at hr;obtain⟨fv,cv,e,h1,h2⟩:=hr;exact kb6
 | .nilf,_,hr=>by simp only[Rel]at hr;subst hr;simp[AV.sz,Value.oneCell']
 | .nilm,_,hr=>by simp only[Rel]at hr;subst hr;simp[AV.sz,Value.oneCell']
 | .omap _,_,hr=>by
   simp only[Rel]at hr;obtain⟨b,cap,esz,hk,e⟩:=hr;exact kb6
 | .nili,_,hr=>by simp only[Rel]at hr;subst hr;simp[AV.sz,Value.oneCell']
 | .iface _ v,_,hr=>by
   simp only[Rel]at hr;obtain⟨x,e,hx⟩:=hr;exact kb6
 | .opt _ _,_,hr=>by simp[Rel]at hr
 | .raw _,_,hr=>by simp only[Rel]at hr;obtain⟨rfl,h⟩:=hr;simp[AV.sz,h]
 | .junk,_,hr=>by simp only[Rel]at hr;obtain⟨v,rfl,h⟩:=hr;simp[AV.sz,h]
theorem RelF.len{c:Ctx}:∀(fs:List AV) (cs:List Value),RelF c fs cs→cs.length=AV.szs fs∧∀v∈cs,v.oneCell'=true
 | [],_,hr=>by simp only[RelF]at hr;subst hr;simp[AV.szs]
 | f::fs,_,hr=>by
   simp only[RelF]at hr;obtain⟨c1,c2,e,h1,h2⟩:=hr;obtain⟨l1,o1⟩:=Rel.len f _ h1;obtain⟨l2,o2⟩:=RelF.len fs _ h2;subst e;refine⟨by simp[AV.szs,l1,l2],fun v hv=> ?_⟩;rcases List.mem_append.1 hv with h | h
   ·exact o1 v h
   ·exact o2 v h
end
theorem RelF.append{c:Ctx}{a b:List AV}{cs:List Value}:RelF c (a++b) cs↔∃c1 c2,cs=c1++c2∧RelF c a c1∧RelF c b c2:=by
 induction a generalizing cs with
 | nil=>
   simp only[List.nil_append,RelF];exact⟨fun h=>⟨[],cs,osi,rfl,h⟩,by rintro⟨_,_,rfl,rfl,h⟩;simpa using h⟩
 | cons x a ih=>
   simp only[List.cons_append,RelF,ih];constructor
   ·rintro⟨c1,c2,rfl,h1,d1,d2,rfl,h2,h3⟩;exact⟨c1++d1,d2,osi,⟨c1,d1,rfl,h1,h2⟩,h3⟩
   ·rintro⟨_,d2,rfl,⟨c1,d1,rfl,h1,h2⟩,h3⟩;exact⟨c1,d1++d2,osi,h1,d1,d2,rfl,h2,h3⟩
theorem Rp{xs:List AV}{e:Nat}(h:∀x∈xs,x.sz=e):AV.szs xs=xs.length*e:=by
 induction xs with
 | nil=>simp[AV.szs]
 | cons x xs ih=>
   simp only[AV.szs,List.length_cons,h x osi,ih fun y hy=>h y (by simp[hy])];rw[Nat.add_mul];omega
theorem RelF.nth{c : Ctx}{xs : List AV}{cs : List Value}(h : RelF c xs cs){i : Nat}{x : AV}(hi : xs[i]? = some x):
   ∃a ds b,cs=a++(ds++b)∧Rel c x true ds∧a.length=AV.szs (xs.take i)∧RelF c (xs.take i) a∧RelF c (xs.drop (i+1)) b:=by
 have hlt:i<xs.length:=by
   rcases Nat.lt_or_ge i xs.length with h' | h'
   ·exact h'
   ·rw[List.getElem?_eq_none h']at hi;simp at hi
 have hx:xs=xs.take i++(x::xs.drop (i+1)):=by
   have e:xs[i]=x:=by rw[List.getElem?_eq_getElem hlt]at hi;exact Option.some.inj hi
   rw[←e,←List.drop_eq_getElem_cons hlt,List.take_append_drop]
 rw[hx]at h;obtain⟨a,r,e,h1,h2⟩:=RelF.append.1 h;simp only[RelF]at h2;obtain⟨ds,b,e2,h3,h4⟩:=h2;exact⟨a,ds,b,by rw[e,e2],h3,(RelF.len _ _ h1).1,h1,h4⟩
inductive AObj where
 | arr (ver esz:Nat) (els:List AV)
 | map (es:List (AV×AV))
 | glob (esz:Nat) (els:List AV)
def AObj.ver:AObj→Nat
 | .arr v _ _=>v
 | .map _=>0
 | .glob _ _=>0
abbrev Heap:=Nat→Option AObj
def Heap.put(H:Heap)(k:Nat)(o:Option AObj):Heap:=fun j=>if j=k then o else H j
theorem Rm(H:Heap)(k:Nat)(o:Option AObj):H.put k o k=o:=by simp[Heap.put]
theorem Rk(H:Heap){k j:Nat}(o:Option AObj)(h:j≠k):H.put k o j=H j:=by simp[Heap.put,h]
def Zm(c:Ctx)(k:Nat)(o:AObj):Option Nat:=
 match c.ρ k o.ver with
 | some (.blk b _ _)=>some b
 | _=>none
def RelM(c:Ctx):List (AV×AV)→List MapEntry→Prop
 | [],l=>l=[]
 | (k,v)::es,l=>∃e r,l=e::r∧Rel c k false [e.key]∧Rel c v false [e.val]∧RelM c es r
theorem RelM.mono{c c':Ctx}(h:c.le c'):∀(es:List (AV×AV)) (l:List MapEntry),RelM c es l→RelM c' es l
 | [],_,hr=>by simpa [RelM]using hr
 | (k,v)::es,_,hr=>by
   simp only[RelM]at hr ⊢;obtain⟨e,r,e1,h1,h2,h3⟩:=hr;exact⟨e,r,e1,Rel.mono h k _ _ h1,Rel.mono h v _ _ h2,RelM.mono h es _ h3⟩
def ZR(c:Ctx)(k:Nat)(w:World):AObj→Prop
 | .arr ver esz els=>∃l,c.ρ k ver=some l∧match l with
   | .nil=>els=[]
   | .blk b cap e=>e=esz∧(∀x∈els,x.sz=esz)∧els.length≤cap∧∃(arr:Array Value) (ty:TypeId) (ds:List Value),w.heap[b]? =some (.cells arr ty (0,0))∧arr.size=cap*esz∧RelF c els ds∧At arr 0 ds
 | .map es=>∃b cap e entries clock,c.ρ k 0=some (.blk b cap e)∧w.heap[b]? =some (.map entries clock)∧RelM c es entries.toList
 | .glob esz els=>c.ρ k 0=some .nil∧(∀x∈els,x.sz=esz)∧∃(arr:Array Value) (ds:List Value),c.ro k=some arr∧RelF c els ds∧At arr 0 ds
theorem ZR.mono{c c':Ctx}(h:c.le c'){k:Nat}{w w':World}{o:AObj}(hw:∀b,Zm c k o=some b→w'.heap[b]? =w.heap[b]?)(ho:ZR c k w o):ZR c' k w' o:=by
 cases o with
 | arr ver esz els=>
   simp only[ZR]at ho ⊢;obtain⟨l,hl,hm⟩:=ho;refine⟨l,h.ρ hl,?_⟩;cases l with
   | nil=>exact hm
   | blk b cap e=>
     obtain⟨he,hz,hc,arr,ty,ds,hb,hs,hr,ha⟩:=hm;exact⟨he,hz,hc,arr,ty,ds,by rw[hw b (by simp[Zm,AObj.ver,hl])];exact hb,hs,RelF.mono h _ _ hr,ha⟩
 | map es=>
   simp only[ZR]at ho ⊢;obtain⟨b,cap,e,entries,clock,hl,hb,hr⟩:=ho;exact⟨b,cap,e,entries,clock,h.ρ hl,by rw[hw b (by simp[Zm,AObj.ver,hl])];exact hb,RelM.mono h _ _ hr⟩
 | glob esz els=>
   simp only[ZR]at ho ⊢;obtain⟨hl,hz,arr,ds,hb,hr,ha⟩:=ho;exact⟨h.ρ hl,hz,arr,ds,h.ro hb,RelF.mono h _ _ hr,ha⟩
theorem ZR.lt{c:Ctx}{k:Nat}{w:World}{o:AObj}{b:Nat}(ho:ZR c k w o)(hb:Zm c k o= .some b):b<w.heap.size:=by
 have key:∀x,w.heap[b]? = .some x→b<w.heap.size:=fun x hx=>by
   exact kaX
 cases o with
 | arr ver esz els=>
   simp only[ZR]at ho;obtain⟨l,hl,hm⟩:=ho;cases l with
   | nil=>simp[Zm,AObj.ver,hl]at hb
   | blk b' cap e=>
     simp[Zm,AObj.ver,hl]at hb;subst hb;obtain⟨_,_,_,arr,ty,ds,hb,_⟩:=hm;exact key _ hb
 | map es=>
   simp only[ZR]at ho;obtain⟨b',cap,e,entries,clock,hl,hb',_⟩:=ho;simp[Zm,AObj.ver,hl]at hb;subst hb;exact key _ hb'
 | glob esz els=>
   have hl:c.ρ k 0=some .nil:=ho.1;simp[Zm,AObj.ver,hl]at hb
structure Sim(c:Ctx)(H:Heap)(n:Nat)(w:World):Prop where
 ro:∀b a,c.ro b=some a→∃ty fr,w.heap[b]? =some (.cells a ty fr)
 own:∀k o,H k=some o→ZR c k w o
 sep:∀k o b,H k=some o→Zm c k o=some b→c.ro b=none
 inj:∀k k' o o' b,H k=some o→H k'=some o'→Zm c k o=some b→Zm c k' o'=some b→k=k'
 fresh:∀k,n≤k→H k=none∧∀v,c.ρ k v=none
 vers:∀k o v,H k=some o→o.ver<v→c.ρ k v=none
def Rh(c:Ctx)(H:Heap)(b:Nat):Prop:=∃k o,H k=some o∧Zm c k o=some b
structure Fr(S:Nat→Prop)(w w':World):Prop where
 os:w'.os=w.os
 tape:w'.tape=w.tape
 output:w'.output=w.output
 size:w.heap.size≤w'.heap.size
 keep:∀b,b<w.heap.size→¬S b→w'.heap[b]? =w.heap[b]?
theorem Fr.refl(S:Nat→Prop)(w:World):Fr S w w:=⟨rfl,rfl,rfl,Nat.le_refl _,fun _ _ _=>rfl⟩
structure Step(c:Ctx)(H:Heap)(w:World)(c':Ctx)(H':Heap)(n':Nat)(w':World):Prop where
 le:c.le c'
 sim:Sim c' H' n' w'
 fr:Fr (Rh c H) w w'
 new:∀b,Rh c' H' b→Rh c H b∨w.heap.size≤b
theorem Step.refl{c:Ctx}{H:Heap}{n:Nat}{w:World}(h:Sim c H n w):Step c H w c H n w:=⟨.refl _,h,.refl _ _,fun _ hb=> .inl hb⟩
theorem Step.trans{c c' c'' : Ctx}{H H' H'' : Heap}{n' n'' : Nat}{w w' w'' : World}(h : Step c H w c' H' n' w')(h' : Step c' H' w' c'' H'' n'' w''):
   Step c H w c'' H'' n'' w'' where
 le:=h.le.trans h'.le
 sim:=h'.sim
 fr:={
   os:=h'.fr.os.trans h.fr.os
   tape:=h'.fr.tape.trans h.fr.tape
   output:=h'.fr.output.trans h.fr.output
   size:=Nat.le_trans h.fr.size h'.fr.size
   keep:=fun b hb hS=>(h'.fr.keep b (Nat.lt_of_lt_of_le hb h.fr.size) (fun ho=>(h.new b ho).elim hS (fun hge=>om))).trans (h.fr.keep b hb hS)}
 new:=fun b hb=>(h'.new b hb).elim (fun ho=>h.new b ho) (fun hge=> .inr (Nat.le_trans h.fr.size hge))
theorem Sim.sameHeap{c:Ctx}{H:Heap}{n:Nat}{w w':World}(h:Sim c H n w)(hh:w'.heap=w.heap):Sim c H n w' where
 ro:=fun b a hb=>by rw[hh];exact h.ro b a hb
 own:=fun k o hk=>(h.own k o hk).mono (.refl _) (fun b _=>by rw[hh])
 sep:=h.sep
 inj:=h.inj
 fresh:=h.fresh
 vers:=h.vers
theorem Step.drew{c:Ctx}{H:Heap}{n:Nat}{w:World}(h:Sim c H n w):Step c H w c H n w.drew:=
 ⟨.refl _,h.sameHeap rfl,⟨rfl,rfl,rfl,Nat.le_refl _,fun _ _ _=>rfl⟩,fun _ hb=> .inl hb⟩
theorem heap_push_lt{w:World}{o:Obj}{b:Nat}{x:Obj}(h:w.heap[b]? =some x):(w.alloc o).heap[b]? =some x:=by
 have hb:b<w.heap.size:=by
   rcases Nat.lt_or_ge b w.heap.size with h' | h'
   ·exact h'
   ·rw[Array.getElem?_eq_none h']at h;simp at h
 show(w.heap.push o)[b]? =_;rw[Array.getElem?_push,if_neg om];exact h
theorem UB{w:World}{o:Obj}:(w.alloc o).heap[w.heap.size]? =some o:=by
 show(w.heap.push o)[w.heap.size]? =_;simp
theorem Sim.ro_size{c:Ctx}{H:Heap}{n:Nat}{w:World}(h:Sim c H n w){b:Nat}(hb:w.heap.size≤b):c.ro b=none:=by
 cases hr:c.ro b with
 | none=>rfl
 | some a=>
   obtain⟨ty,fr,hx⟩:=h.ro b a hr;rw[Array.getElem?_eq_none hb]at hx;simp at hx
theorem Fr.alloc(S:Nat→Prop)(w:World)(o:Obj):Fr S w (w.alloc o):=
 ⟨rfl,rfl,rfl,osi,fun b hb _=>by show(w.heap.push o)[b]? =_;rw[Array.getElem?_push,if_neg om]⟩
def Ctx.addRo(c:Ctx)(b:Nat)(a:Array Value):Ctx:={c with ro:=fun j=>if j=b then some a else c.ro j}
theorem RQ{c:Ctx}{b:Nat}{a:Array Value}(h:c.ro b=none):c.le (c.addRo b a):=
 ⟨fun hk=>hk,fun{b' a'} hb=>by
   show(if b'=b then some a else c.ro b')=some a';have:b'≠b:=fun e=>by subst e;rw[h]at hb;simp at hb
   rw[if_neg this];exact hb⟩
theorem Sc{c : Ctx}{H : Heap}{n : Nat}{w : World}(h : Sim c H n w)(arr : Array Value)(ty : TypeId)(fr : Nat × Nat):
   Step c H w (c.addRo w.heap.size arr) H n (w.alloc (.cells arr ty fr)) where
 le:=RQ (h.ro_size (Nat.le_refl _))
 sim:={
   ro:=fun b a hb=>by
     by_cases e:b=w.heap.size
     ·subst e;have:arr=a:=by simpa [Ctx.addRo]using hb
      subst this;exact⟨ty,fr,UB⟩
     ·have hb':c.ro b=some a:=by simpa [Ctx.addRo,e]using hb
      obtain⟨ty',fr,hx⟩:=h.ro b a hb';exact⟨ty',fr,heap_push_lt hx⟩
   own:=fun k o hk=>(h.own k o hk).mono (RQ (h.ro_size (Nat.le_refl _))) (fun b hb=>by
     have:=(h.own k o hk).lt hb;show(w.heap.push _)[b]? =_;rw[Array.getElem?_push,if_neg om])
   sep:=fun k o b hk hb=>by
     have hlt:=(h.own k o hk).lt hb;have:(c.addRo w.heap.size arr).ro b=c.ro b:=by
       show(if b=w.heap.size then some arr else c.ro b)=_;rw[if_neg om]
     rw[this];exact h.sep k o b hk hb
   inj:=h.inj
   fresh:=h.fresh
   vers:=h.vers}
 fr:= .alloc _ _ _
 new:=fun b hb=> .inl hb
theorem Sk{c:Ctx}{H:Heap}{n:Nat}{w:World}(h:Sim c H n w)(arr:Array Value)(ty:TypeId):
 Step c H w (c.addRo w.heap.size arr) H n (w.alloc (.cells arr ty)):=Sc h arr ty (0,0)
def Ctx.addLoc(c:Ctx)(k v:Nat)(l:Loc):Ctx:={c with ρ:=fun k' v'=>if k'=k∧v'=v then some l else c.ρ k' v'}
theorem Rx{c:Ctx}{k v:Nat}{l:Loc}(h:c.ρ k v=none):c.le (c.addLoc k v l):=
 ⟨fun{k' v' l'} hk=>by
   show(if k'=k∧v'=v then some l else c.ρ k' v')=some l';have:¬(k'=k∧v'=v):=fun e=>by obtain⟨rfl,rfl⟩:=e;rw[h]at hk;simp at hk
   rw[if_neg this];exact hk,fun hb=>hb⟩
theorem Rn{c:Ctx}{k v:Nat}{l:Loc}:(c.addLoc k v l).ρ k v=some l:=by simp[Ctx.addLoc]
theorem RJ{c:Ctx}{k v k' v':Nat}{l:Loc}(h:¬(k'=k∧v'=v)):(c.addLoc k v l).ρ k' v'=c.ρ k' v':=by
 show(if k'=k∧v'=v then some l else c.ρ k' v')=_;rw[if_neg h]
theorem Xi{c:Ctx}{k v:Nat}{l:Loc}{k':Nat}{o:AObj}(h:¬(k'=k∧o.ver=v)):Zm (c.addLoc k v l) k' o=Zm c k' o:=by
 unfold Zm;rw[RJ h]
theorem Step.renew{c : Ctx}{H : Heap}{n n' : Nat}{w w' : World}(h : Sim c H n w)(k : Nat)(o : AObj)(l : Loc)
   (hn:n≤n') (hk:k<n')
   (hv:c.ρ k o.ver=none) (hvs:∀v,o.ver<v→c.ρ k v=none)
   (hfr:Fr (Rh c H) w w')
   (hlive:∀k' o' b,k'≠k→H k'=some o'→Zm c k' o'=some b→w'.heap[b]? =w.heap[b]?)
   (hro:∀b a,c.ro b=some a→w'.heap[b]? =w.heap[b]?)
   (hok:ZR (c.addLoc k o.ver l) k w' o)
   (hl:∀b cap e,l= .blk b cap e→c.ro b=none∧(w.heap.size≤b∨∃o₀,H k=some o₀∧Zm c k o₀=some b)):
   Step c H w (c.addLoc k o.ver l) (H.put k (some o)) n' w' where
 le:=Rx hv
 sim:={
   ro:=fun b a hb=>by obtain⟨ty,fr,hx⟩:=h.ro b a hb;exact⟨ty,fr,by rw[hro b a hb];exact hx⟩
   own:=fun k' o' hk'=>by
     by_cases e:k'=k
     ·subst e;rw[Rm]at hk';cases hk';exact hok
     ·rw[Rk _ _ e]at hk';exact(h.own k' o' hk').mono (Rx hv) (fun b hb=>hlive k' o' b e hk' hb)
   sep:=fun k' o' b hk' hb=>by
     by_cases e:k'=k
     ·subst e;rw[Rm]at hk';cases hk';have hl':l= .blk b (match l with | .blk _ c _=>c | _=>0) (match l with | .blk _ _ e=>e | _=>0):=by
        unfold Zm at hb;rw[Rn]at hb;cases l with
        | nil=>simp at hb
        | blk b' cap e=>simp at hb;subst hb;rfl
      exact(hl b _ _ hl').1
     ·rw[Rk _ _ e]at hk';rw[Xi (fun hh=>e hh.1)]at hb;exact h.sep k' o' b hk' hb
   inj:=fun k1 k2 o1 o2 b h1 h2 b1 b2=>by
     have main:∀k2 o2,k2≠k→H k2=some o2→Zm c k2 o2=some b→Zm (c.addLoc k o.ver l) k o=some b→False:=fun k2 o2 e hk2 hb2 hb=>by
       unfold Zm at hb;rw[Rn]at hb;cases l with
       | nil=>simp at hb
       | blk b' cap e'=>
         simp at hb;subst hb;rcases(hl b' cap e' rfl).2 with hge | ⟨o₀,ho₀,hb₀⟩
         ·have:=(h.own k2 o2 hk2).lt hb2;omega
         ·exact e (h.inj k2 k o2 o₀ b' hk2 ho₀ hb2 hb₀)
     by_cases e1:k1=k
     ·by_cases e2:k2=k
      ·rw[e1,e2]
      ·exfalso;subst e1;rw[Rm]at h1;cases h1;rw[Rk _ _ e2]at h2;rw[Xi (fun hh=>e2 hh.1)]at b2;exact main k2 o2 e2 h2 b2 b1
     ·by_cases e2:k2=k
      ·exfalso;subst e2;rw[Rm]at h2;cases h2;rw[Rk _ _ e1]at h1;rw[Xi (fun hh=>e1 hh.1)]at b1;exact main k1 o1 e1 h1 b1 b2
      ·rw[Rk _ _ e1]at h1;rw[Rk _ _ e2]at h2;rw[Xi (fun hh=>e1 hh.1)]at b1;rw[Xi (fun hh=>e2 hh.1)]at b2;exact h.inj k1 k2 o1 o2 b h1 h2 b1 b2
   fresh:=fun k' hk'=>by
     have e:k'≠k:=om;obtain⟨f1,f2⟩:=h.fresh k' (Nat.le_trans hn hk');exact⟨by rw[Rk _ _ e];exact f1,fun v=>by rw[RJ (fun hh=>e hh.1)];exact f2 v⟩
   vers:=fun k' o' v hk' hlt=>by
     by_cases e:k'=k
     ·subst e;rw[Rm]at hk';cases hk';rw[RJ (fun hh=>om)];exact hvs v hlt
     ·rw[Rk _ _ e]at hk';rw[RJ (fun hh=>e hh.1)];exact h.vers k' o' v hk' hlt}
 fr:=hfr
 new:=fun b ⟨k',o',hk',hb⟩=>by
   by_cases e:k'=k
   ·subst e;rw[Rm]at hk';cases hk';unfold Zm at hb;rw[Rn]at hb;cases l with
    | nil=>simp at hb
    | blk b' cap e'=>
      simp at hb;subst hb;rcases(hl b' cap e' rfl).2 with hge | ⟨o₀,ho₀,hb₀⟩
      ·exact .inr hge
      ·exact .inl ⟨k',o₀,ho₀,hb₀⟩
   ·rw[Rk _ _ e]at hk';rw[Xi (fun hh=>e hh.1)]at hb;exact .inl ⟨k',o',hk',hb⟩
theorem Step.write{c : Ctx}{H : Heap}{n : Nat}{w w' : World}(h : Sim c H n w)(k : Nat)(o o' : AObj)(hk : H k = some o)(hver : o'.ver = o.ver)
   (hfr:Fr (Rh c H) w w')
   (hlive:∀k' o' b,k'≠k→H k'=some o'→Zm c k' o'=some b→w'.heap[b]? =w.heap[b]?)
   (hro:∀b a,c.ro b=some a→w'.heap[b]? =w.heap[b]?)
   (hok:ZR c k w' o'):
   Step c H w c (H.put k (some o')) n w' where
 le:= .refl _
 sim:={
   ro:=fun b a hb=>by obtain⟨ty,fr,hx⟩:=h.ro b a hb;exact⟨ty,fr,by rw[hro b a hb];exact hx⟩
   own:=fun k' o2 hk'=>by
     by_cases e:k'=k
     ·subst e;rw[Rm]at hk';cases hk';exact hok
     ·rw[Rk _ _ e]at hk';exact(h.own k' o2 hk').mono (.refl _) (fun b hb=>hlive k' o2 b e hk' hb)
   sep:=fun k' o2 b hk' hb=>by
     by_cases e:k'=k
     ·subst e;rw[Rm]at hk';cases hk';exact h.sep k' o b hk (by unfold Zm at hb ⊢;rw[←hver];exact hb)
     ·rw[Rk _ _ e]at hk';exact h.sep k' o2 b hk' hb
   inj:=fun k1 k2 o1 o2 b h1 h2 b1 b2=>by
     have fix:∀k' o2,H.put k (some o') k'=some o2→Zm c k' o2=some b→∃o3,H k'=some o3∧Zm c k' o3=some b:=fun k' o2 hh hb=>by
       by_cases e:k'=k
       ·subst e;rw[Rm]at hh;cases hh;exact⟨o,hk,by unfold Zm at hb ⊢;rw[←hver];exact hb⟩
       ·rw[Rk _ _ e]at hh;exact⟨o2,hh,hb⟩
     obtain⟨o3,h3,b3⟩:=fix k1 o1 h1 b1;obtain⟨o4,h4,b4⟩:=fix k2 o2 h2 b2;exact h.inj k1 k2 o3 o4 b h3 h4 b3 b4
   fresh:=fun k' hk'=>by
     obtain⟨f1,f2⟩:=h.fresh k' hk';have e:k'≠k:=fun e=>by subst e;rw[hk]at f1;simp at f1
     exact⟨by rw[Rk _ _ e];exact f1,f2⟩
   vers:=fun k' o2 v hk' hlt=>by
     by_cases e:k'=k
     ·subst e;rw[Rm]at hk';cases hk';exact h.vers k' o v hk (by rw[←hver];exact hlt)
     ·rw[Rk _ _ e]at hk';exact h.vers k' o2 v hk' hlt}
 fr:=hfr
 new:=fun b ⟨k',o2,hk',hb⟩=>by
   by_cases e:k'=k
   ·subst e;rw[Rm]at hk';cases hk';exact .inl ⟨k',o,hk,by unfold Zm at hb ⊢;rw[←hver];exact hb⟩
   ·rw[Rk _ _ e]at hk';exact .inl ⟨k',o2,hk',hb⟩
theorem Step.freeze{c : Ctx}{H : Heap}{n : Nat}{w : World}(h : Sim c H n w)(k ver esz : Nat)(els : List AV)(hk : H k = some (.arr ver esz els)):
   ∃c',Step c H w c' (H.put k none) n w∧(∀off len v,off+len≤els.length→Rel c (.osl k ver off len) false [v]→Rel c' (.sl esz ((els.drop off).take len)) false [v])
     ∧(∀off i path v,i<els.length→path=[]→off=i*esz→Rel c (.loc k ver off i path) false [v]→Rel c' (.rp (els.getD i .junk)) false [v]):=by
 have ho:=h.own k _ hk;simp only[ZR]at ho;obtain⟨l,hl,hm⟩:=ho
 have putStep : ∀ (c' : Ctx), c.le c' → (∀ k' v', c'.ρ k' v' = c.ρ k' v') → (∀ b a, c'.ro b = some a → c.ro b = some a ∨ (Zm c k (.arr ver esz els) = some b ∧ ∃ ty fr, w.heap[b]? = some (.cells a ty fr))) →
     Step c H w c' (H.put k none) n w:=fun c' hle hρ hro'=>{
   le:=hle
   sim:={
     ro:=fun b a hb=>(hro' b a hb).elim (h.ro b a) (fun x=>x.2)
     own:=fun k' o hk'=>by
       by_cases e:k'=k
       ·exact kcm
       ·rw[Rk _ _ e]at hk';exact(h.own k' o hk').mono hle (fun _ _=>rfl)
     sep:=fun k' o b hk' hb=>by
       by_cases e:k'=k
       ·exact kcm
       ·rw[Rk _ _ e]at hk';have hb':Zm c k' o=some b:=by unfold Zm at hb ⊢;rw[hρ]at hb;exact hb
        cases hr:c'.ro b with
        | none=>rfl
        | some a=>
          rcases hro' b a hr with h1 | ⟨h1,_⟩
          ·have:=h.sep k' o b hk' hb';rw[this]at h1;simp at h1
          ·exact absurd (h.inj k' k o _ b hk' hk hb' h1) e
     inj:=fun k1 k2 o1 o2 b h1 h2 b1 b2=>by
       have e1:k1≠k:=fun e=>by subst e;rw[Rm]at h1;simp at h1
       have e2:k2≠k:=fun e=>by subst e;rw[Rm]at h2;simp at h2
       rw[Rk _ _ e1]at h1;rw[Rk _ _ e2]at h2;have b1':Zm c k1 o1=some b:=by unfold Zm at b1 ⊢;rw[hρ]at b1;exact b1
       have b2':Zm c k2 o2=some b:=by unfold Zm at b2 ⊢;rw[hρ]at b2;exact b2
       exact h.inj k1 k2 o1 o2 b h1 h2 b1' b2'
     fresh:=fun k' hk'=>by
       obtain⟨f1,f2⟩:=h.fresh k' hk';refine⟨?_,fun v=>by rw[hρ];exact f2 v⟩;by_cases e:k'=k
       ·subst e;rw[Rm]
       ·rw[Rk _ _ e];exact f1
     vers:=fun k' o v hk' hlt=>by
       by_cases e:k'=k
       ·exact kcm
       ·rw[Rk _ _ e]at hk';rw[hρ];exact h.vers k' o v hk' hlt}
   fr:= .refl _ _
   new:=fun b ⟨k',o,hk',hb⟩=>by
     by_cases e:k'=k
     ·exact kcm
     ·rw[Rk _ _ e]at hk';exact .inl ⟨k',o,hk',by unfold Zm at hb ⊢;rw[hρ]at hb;exact hb⟩}
 cases l with
 | nil=>
   have hm':els=[]:=hm;subst hm';refine⟨c,putStep c (.refl _) (fun _ _=>rfl) (fun b a hb=> .inl hb),fun off len v hlen hr=> ?_,fun off i path v hi=> ?_⟩
   ·simp only[Rel]at hr ⊢;obtain⟨l',hl',hmm⟩:=hr;rw[hl]at hl';cases hl';obtain⟨_,rfl,e⟩:=hmm;exact⟨none,0,by simpa using e,osi,osi,.inl osi⟩
   ·simp at hi
 | blk b cap e=>
   obtain⟨he,hz,hc,arr,ty,ds,hb,hs,hr,ha⟩:=hm;subst he;have hbo:Zm c k (.arr ver e els)=some b:=by simp[Zm,AObj.ver,hl]
   have hsep:=h.sep k _ b hk hbo;have hle:c.le (c.addRo b arr):=RQ hsep;refine⟨c.addRo b arr,putStep _ hle (fun _ _=>rfl) (fun b' a hb'=> ?_),fun off len v hlen hrel=> ?_,fun off i path v hi hp ho hrel=> ?_⟩
   ·by_cases eb:b'=b
    ·subst eb;have:arr=a:=by simpa [Ctx.addRo]using hb'
     subst this;exact .inr ⟨hbo,ty,_,hb⟩
    ·exact .inl (by simpa [Ctx.addRo,eb]using hb')
   ·simp only[Rel]at hrel ⊢;obtain⟨l',hl',hmm⟩:=hrel;rw[hl]at hl';cases hl';obtain⟨cp,o',h1,h2,h3,ev⟩:=hmm;have hlen':((els.drop off).take len).length=len:=oz;refine⟨_,cp,by rw[hlen'];exact ev,by rw[hlen'];exact h1,fun x hx=>hz x (List.mem_of_mem_drop (List.mem_of_mem_take hx)),?_⟩;by_cases h0:len=0
    ·left;subst h0;simp
    ·right;have eo:o'=off*e:=by rcases h3 with h3 | h3<;>omega
     subst eo;have e1:els=els.take off++((els.drop off).take len++(els.drop off).drop len):=by
       rw[List.take_append_drop,List.take_append_drop]
     rw[e1]at hr;obtain⟨d1,r1,ed,hr1,hr2⟩:=RelF.append.1 hr;obtain⟨d2,d3,ed2,hr3,hr4⟩:=RelF.append.1 hr2;subst ed;subst ed2;have hl1:d1.length=off*e:=by
       exact kat
     obtain⟨_,ha2⟩:=At.append.1 ha;obtain⟨ha3,_⟩:=At.append.1 ha2;refine⟨b,off*e,arr,d2,rfl,by simp[Ctx.addRo],RelF.mono hle _ _ hr3,?_⟩;rw[←hl1];simpa using ha3
   ·simp only[Rel]at hrel ⊢;subst hp;subst ho;obtain⟨b',cap',e',hl',ev⟩:=hrel;rw[hl]at hl';cases hl';obtain⟨x,hx⟩:∃x,els[i]? =some x:=⟨els[i],List.getElem?_eq_getElem hi⟩;obtain⟨a1,d,b1,ed,hrx,hla,hra,_⟩:=RelF.nth hr hx;have hla':a1.length=i*e:=by
      exact ka0
    subst ed;obtain⟨_,ha2⟩:=At.append.1 ha;obtain⟨ha3,_⟩:=At.append.1 ha2;refine⟨b,i*e,arr,d,ev,by simp[Ctx.addRo],?_,by rw[←hla'];simpa using ha3⟩;have:els.getD i .junk=x:=by simp[List.getD,hx]
    rw[this];exact Rel.mono hle _ _ _ hrx
def tAgg(P:Program)(t:TypeId):Bool:=
 match P.underlying t with
 | some (.struct _) | some (.array _ _)=>true
 | _=>false
def tSz(P:Program)(t:TypeId):Option Nat:=(P.info? t).map (·.size)
def tFld(P:Program)(t f:Nat):Option (Nat×Nat):=
 match P.underlying t with
 | some (.struct fs)=>match fs[f]? with
   | some d=>match P.info? d.type with
     | some i=>some (d.offset,i.size)
     | none=>none
   | none=>none
 | _=>none
def WI(P:Program)(t:TypeId):Option Nat:=
 match P.underlying t with
 | some (.slice e)=>(P.info? e).map (·.size)
 | _=>none
def XQ(P:Program)(t:TypeId):Bool:=match P.underlying t with | some .string=>true | _=>false
def Ku(P:Program)(t:TypeId):Bool:=match P.underlying t with | some .bool=>true | _=>false
def Qb(P:Program)(t:TypeId):Bool:=match P.underlying t with | some (.pointer _)=>true | _=>false
def Xt(P:Program)(t:TypeId):Bool:=match P.underlying t with | some (.slice _)=>true | _=>false
theorem Y3{P:Program}{t:TypeId}(h:XQ P t=true):P.underlying t=some .string:=by unfold XQ at h;split at h<;>simp_all
theorem tIsBool_spec{P:Program}{t:TypeId}(h:Ku P t=true):P.underlying t=some .bool:=by unfold Ku at h;split at h<;>simp_all
theorem QR{P:Program}{t:TypeId}(h:Qb P t=true):∃e,P.underlying t=some (.pointer e):=by unfold Qb at h;split at h<;>simp_all
theorem X6{P:Program}{t:TypeId}(h:Xt P t=true):∃e,P.underlying t=some (.slice e):=by unfold Xt at h;split at h<;>simp_all
def AV.isAgg:AV→Bool
 | .agg _=>true
 | _=>false
def AV.nf:AV→Nat
 | .agg fs=>fs.length
 | _=>0
def AV.fld:AV→Nat→AV
 | .agg fs,i=>fs.getD i .junk
 | _,_=> .junk
def AV.offs:AV→Nat→Nat
 | .agg fs,i=>AV.szs (fs.take i)
 | _,_=>0
def AV.setf:AV→Nat→AV→AV
 | .agg fs,i,v=> .agg (fs.set i v)
 | d,_,_=>d
def AV.memOK:AV→Bool
 | .opt _ _ | .tup _ | .junk | .raw _=>false
 | _=>true
theorem Sa{c:Ctx}{av:AV}{cs:List Value}(h:Rel c av true cs)(ha:av.isAgg=false):∃v,cs=[v]∧Rel c av false [v]:=by
 cases av<;>simp only[Rel,AV.isAgg,Bool.true_eq_false]at h ha ⊢<;>first
   | (subst h;exact⟨_,rfl,rfl⟩)
   | (obtain⟨b,off,arr,ds,e,h⟩:=h;subst e;exact⟨_,rfl,b,off,arr,ds,rfl,h⟩)
   | (obtain⟨b,cap,esz,h,e⟩:=h;subst e;exact⟨_,rfl,b,cap,esz,h,rfl⟩)
   | (obtain⟨a,cap,e,h⟩:=h;subst e;exact⟨_,rfl,a,cap,rfl,h⟩)
   | (obtain ⟨l, hl, h⟩ := h; cases l with
       | nil=>obtain⟨h1,h2,e⟩:=h;subst e;exact⟨_,rfl,_,hl,h1,h2,rfl⟩
       | blk b cap e=>obtain⟨cp,o',h1,h2,h3,e⟩:=h;subst e;exact⟨_,rfl,_,hl,cp,o',h1,h2,h3,rfl⟩)
   | (obtain⟨x,e,h⟩:=h;subst e;exact⟨_,rfl,x,rfl,h⟩)
   | (obtain⟨e,h⟩:=h;subst e;exact⟨_,rfl,rfl,fun h=>by simp at h⟩)
   | (obtain⟨v,e,h⟩:=h;subst e;exact⟨_,rfl,v,rfl,fun h=>by simp at h⟩)
theorem RY{c:Ctx}{av:AV}{v:Value}(h:Rel c av false [v])(ha:av.memOK=true):Rel c av true v.cells.toList:=by
 cases av<;>simp only[Rel,AV.memOK,Bool.false_eq_true,List.cons.injEq,and_true]at h ha ⊢<;>first
   | (subst h;rfl)
   | (obtain⟨b,off,arr,ds,e,h⟩:=h;subst e;exact⟨b,off,arr,ds,rfl,h⟩)
   | (obtain⟨b,cap,esz,h,e⟩:=h;subst e;exact⟨b,cap,esz,h,rfl⟩)
   | (obtain⟨a,cap,e,h⟩:=h;subst e;exact⟨a,cap,rfl,h⟩)
   | (obtain ⟨l, hl, h⟩ := h; cases l with
       | nil=>obtain⟨h1,h2,e⟩:=h;subst e;exact⟨_,hl,h1,h2,rfl⟩
       | blk b cap e=>obtain⟨cp,o',h1,h2,h3,e⟩:=h;subst e;exact⟨_,hl,cp,o',h1,h2,h3,rfl⟩)
   | (obtain⟨x,e,h⟩:=h;subst e;exact⟨x,rfl,h⟩)
   | (obtain⟨x,e,h⟩:=h;subst e;exact h)
theorem Rel.aggV{c:Ctx}{fs:List AV}{v:Value}(h:Rel c (.agg fs) false [v]):∃arr:Array Value,v= .agg arr∧RelF c fs arr.toList:=by
 simp only[Rel,List.cons.injEq,and_true]at h;exact h
def QS(P:Program)(op:Op)(ε:Operand→AV)(H:Heap)(r:AV):Prop:=
 ∀(dst:Option Tmp) (ty:TypeId) (pos:String) (after:Array Edge) (guard:Option (Nat×Bool)) (c:Ctx) (n:Nat) (w:World) (ρv:Operand→Value),
   Sim c H n w→(∀x∈op.operands,Rel c (ε x) false [ρv x])→
   ∃v c' w',(execOp ρv ⟨dst,op,ty,pos,after,guard⟩).run P w= .ok (.value v) w'∧Step c H w c' H n w'∧Rel c' r false [v]
theorem QS.pure{P : Program}{op : Op}{ε : Operand → AV}{H : Heap}{r : AV}
   (h:∀(dst:Option Tmp) (ty:TypeId) (pos:String) (after:Array Edge) (guard:Option (Nat×Bool)) (c:Ctx) (n:Nat) (w:World) (ρv:Operand→Value),Sim c H n w→(∀x∈op.operands,Rel c (ε x) false [ρv x])→
     ∃v,(execOp ρv ⟨dst,op,ty,pos,after,guard⟩).run P w= .ok (.value v) w∧Rel c r false [v]):QS P op ε H r:=
 fun dst ty pos after guard c n w ρv hs hr=>let ⟨v,h1,h2⟩:=h dst ty pos after guard c n w ρv hs hr;⟨v,c,w,h1,.refl hs,h2⟩
theorem qs_move{P:Program}{ε:Operand→AV}{H:Heap}{x:Operand}:QS P (.move x) ε H (ε x):=
 .pure fun dst ty pos after guard c n w ρv hs hr=>⟨ρv x,by simp[execOp],hr x (by simp[Op.operands])⟩
theorem qs_assign{P:Program}{ε:Operand→AV}{H:Heap}{x:Operand}:QS P (.assign x) ε H (ε x):=
 .pure fun dst ty pos after guard c n w ρv hs hr=>⟨ρv x,by simp[execOp],hr x (by simp[Op.operands])⟩
theorem Addr.add_plain(b o k:Nat):(⟨b,o,none⟩:Addr).add k=⟨b,o+k,none⟩:=by
 unfold Addr.add;split
 ·subst_vars;rfl
 ·rfl
theorem Zc{P:Program}{t:TypeId}{w:World}{d:TypeDesc}(h:P.underlying t=some d):(underlying t).run P w= .ok d w:=run_underlying h w
theorem ZU{P:Program}{t:TypeId}{w:World}{i:TypeInfo}(h:P.info? t=some i):(sizeOf t).run P w= .ok i.size w:=by
 simp[sizeOf,typeInfo,h]
theorem Jy{P:Program}{t f o s:Nat}(h:tFld P t f=some (o,s)):∃fs d i,P.underlying t=some (.struct fs)∧fs[f]? =some d∧P.info? d.type=some i∧d.offset=o∧i.size=s:=by
 unfold tFld at h;split at h
 ·rename_i fs hu;split at h
  ·rename_i d hd;split at h
   ·rename_i i hi;simp at h;exact⟨fs,d,i,hu,hd,hi,h.1,h.2⟩
   ·simp at h
  ·simp at h
 ·simp at h
def qFA(f:Nat):AV→Option (Nat×Nat)→Option (Prop×AV)
 | .rp d,some (o,s)=>some (o=d.offs f∧f<d.nf∧s≠0,.rp (d.fld f))
 | .loc k ver off i p,some (o,s)=>some (s≠0,.loc k ver (off+o) i (p++[f]))
 | _,_=>none
def Qf(P:Program)(t f:Nat)(x:AV):Option (Prop×AV):=qFA f x (tFld P t f)
theorem RelF.fld{c : Ctx}{d : AV}{ds : List Value}(h : Rel c d true ds){f : Nat}(hf : f < d.nf):
   ∃a x b,ds=a++(x++b)∧a.length=d.offs f∧Rel c (d.fld f) true x:=by
 cases d<;>simp only[AV.nf,Nat.not_lt_zero]at hf;rename_i fs;simp only[Rel]at h;obtain⟨a,x,b,e,hx,hl,_,_⟩:=RelF.nth h (List.getElem?_eq_getElem hf);exact⟨a,x,b,e,by simpa [AV.offs]using hl,by simpa [AV.fld,List.getD,List.getElem?_eq_getElem hf]using hx⟩
theorem qs_fieldAddr{P : Program}{ε : Operand → AV}{H : Heap}{t f : Nat}{x : Operand}{C : Prop}{r : AV}
   (h:Qf P t f (ε x)=some (C,r)) (hC:C):QS P (.fieldAddr t x f) ε H r:=
 .pure fun dst ty pos after guard c n w ρv hs hr=>by
   have hx:=hr x (by simp[Op.operands]);generalize hav:ε x=av at h hx;unfold Qf at h;cases ht:tFld P t f with
   | none=>rw[ht]at h;cases av<;>simp[qFA]at h
   | some os=>
   obtain⟨o,s⟩:=os;rw[ht]at h;cases av<;>simp only[qFA]at h<;>try (simp at h;done)
   ·rename_i d
    ·simp only[Option.some.injEq,Prod.mk.injEq]at h;obtain⟨rfl,rfl⟩:=h;obtain⟨e1,e2,e3⟩:=hC;obtain⟨fs,fd,i,hu,hfd,hi,ho,hsz⟩:=Jy ht;simp only[Rel,List.cons.injEq,and_true]at hx;obtain⟨b,off,arr,ds,ev,hb,hd,ha⟩:=hx;obtain⟨a1,y,b1,ed,hl,hy⟩:=RelF.fld hd e2;refine⟨.pointer (some ⟨b,off+fd.offset,none⟩),?_,?_⟩
     ·simp[execOp,ev,Instr.fieldAt,Zc hu,hfd,Instr.sureAddr,fieldPlace,ZU hi,hsz,e3,Addr.add_plain]
     ·simp only[Rel];refine⟨b,off+fd.offset,arr,y,rfl,hb,hy,?_⟩;subst ed;obtain⟨_,ha2⟩:=At.append.1 ha;obtain⟨ha3,_⟩:=At.append.1 ha2;rw[ho,e1,←hl];exact ha3
   ·rename_i k ver off i p
    ·simp only[Option.some.injEq,Prod.mk.injEq]at h;obtain⟨rfl,rfl⟩:=h;obtain⟨fs,fd,i,hu,hfd,hi,ho,hsz⟩:=Jy ht;simp only[Rel,List.cons.injEq,and_true]at hx;obtain⟨b,cap,esz,hk,ev⟩:=hx;refine⟨.pointer (some ⟨b,off+fd.offset,none⟩),?_,?_⟩
     ·simp[execOp,ev,Instr.fieldAt,Zc hu,hfd,Instr.sureAddr,fieldPlace,ZU hi,hsz,hC,Addr.add_plain]
     ·simp only[Rel];exact⟨b,cap,esz,hk,by rw[ho]⟩
def AV.at:AV→List Nat→AV
 | d,[]=>d
 | d,f::p=>(d.fld f).at p
def AV.pathOff:AV→List Nat→Nat
 | _,[]=>0
 | d,f::p=>d.offs f+(d.fld f).pathOff p
def AV.pathOK:AV→List Nat→Prop
 | _,[]=>True
 | d,f::p=>f<d.nf∧(d.fld f).pathOK p
theorem Rel.path{c:Ctx}:∀(p:List Nat) (d:AV) (ds:List Value),Rel c d true ds→d.pathOK p→∃a x b,ds=a++(x++b)∧a.length=d.pathOff p∧Rel c (d.at p) true x
 | [],d,ds,h,_=>⟨[],ds,[],osi,rfl,h⟩
 | f::p,d,ds,h,hp=>by
   obtain⟨a1,y,b1,ed,hl,hy⟩:=RelF.fld h hp.1;obtain⟨a2,x,b2,ed2,hl2,hx⟩:=Rel.path p _ _ hy hp.2;exact⟨a1++a2,x,b2++b1,by rw[ed,ed2];simp,by simp[AV.pathOff,hl,hl2],hx⟩
def ZX(P:Program)(t:TypeId):Bool:=(P.underlying t).isSome
def tyOK(P:Program)(t:TypeId)(d:AV):Prop:=tAgg P t=d.isAgg∧tSz P t=some d.sz
theorem tAgg_spec{P:Program}{t:TypeId}{w:World}{i:TypeInfo}(_:P.info? t=some i):(isAgg t).run P w= .ok (tAgg P t) w∨P.underlying t=none:=by
 unfold isAgg tAgg;cases hu:P.underlying t with
 | none=>exact .inr rfl
 | some d=>left;cases d<;>simp[Zc hu]
theorem Wq{P : Program}{c : Ctx}{d : AV}{ds : List Value}{t : TypeId}{w : World}{b off : Nat}{arr : Array Value}{ty : TypeId}{fr : Nat × Nat}
   (hd:Rel c d true ds) (hb:w.heap[b]? =some (.cells arr ty fr)) (ha:At arr off ds) (ht:tyOK P t d) (hu:(P.underlying t).isSome):
   ∃v,(loadVar t ⟨b,off,none⟩).run P w= .ok v w∧Rel c d false [v]:=by
 obtain⟨h1,h2⟩:=ht;obtain⟨i,hi,hsz⟩:∃i,P.info? t=some i∧i.size=d.sz:=by
   unfold tSz at h2;cases hh:P.info? t with
   | none=>rw[hh]at h2;simp at h2
   | some i=>rw[hh]at h2;simp at h2;exact⟨i,rfl,h2⟩
 have hagg:(isAgg t).run P w= .ok (tAgg P t) w:=(tAgg_spec hi).resolve_right (fun e=>by rw[e]at hu;simp at hu);have hcell:∀j v,ds[j]? =some v→w.cell? ((⟨b,off,none⟩:Addr).add j)=some v:=fun j v hj=>by
   rw[Addr.add_plain];simp only[World.cell?,hb];simpa using ha j v hj
 cases hag:d.isAgg with
 | true=>
   refine⟨.agg ds.toArray,?_,?_⟩
   ·have hl:ds.length=i.size:=by rw[hsz];exact(Rel.len _ _ hd).1
    have:=run_loadCells_list (P:=P) w ⟨b,off,none⟩ ds hcell;rw[hl]at this;simp[loadVar,hagg,h1,hag,ZU hi,this]
   ·cases d<;>simp[AV.isAgg]at hag;simp only[Rel]at hd ⊢;exact⟨_,rfl,hd⟩
 | false=>
   obtain⟨v,e,hv⟩:=Sa hd hag;subst e;refine⟨v,?_,hv⟩;have:=hcell 0 v osi;rw[Addr.add_plain,Nat.add_zero]at this;simp[loadVar,hagg,h1,hag,this]
def nth(els:List AV)(i:Nat):AV:=els.getD i .junk
def qLoadO(P:Program)(t:TypeId)(ver off i:Nat)(p:List Nat):Option AObj→Option (Prop×AV)
 | some (.arr ver' esz els)=>some (ver=ver'∧i<els.length∧off=i*esz+(nth els i).pathOff p∧(nth els i).pathOK p∧tyOK P t ((nth els i).at p)∧ZX P t=true,(nth els i).at p)
 | _=>none
def VT(P:Program)(H:Heap)(t:TypeId):AV→Option (Prop×AV)
 | .rp d=>some (tyOK P t d∧ZX P t=true,d)
 | .loc k ver off i p=>qLoadO P t ver off i p (H k)
 | _=>none
theorem ZR.elem{c : Ctx}{k ver esz : Nat}{els : List AV}{w : World}(ho : ZR c k w (.arr ver esz els)){b cap e : Nat}(hl : c.ρ k ver = some (.blk b cap e)){i : Nat}(hi : i < els.length):
   e=esz∧els.length≤cap∧∃arr ty ds x,w.heap[b]? =some (.cells arr ty (0,0))∧arr.size=cap*esz∧RelF c els ds∧At arr 0 ds∧Rel c (els.getD i .junk) true x∧At arr (i*esz) x∧(∀y∈els,y.sz=esz):=by
 simp only[ZR]at ho;obtain⟨l,hl',hm⟩:=ho;rw[hl]at hl';cases hl';obtain⟨he,hz,hc,arr,ty,ds,hb,hs,hr,ha⟩:=hm;obtain⟨a1,x,b1,ed,hx,hla,_,_⟩:=RelF.nth hr (List.getElem?_eq_getElem hi);have hla':a1.length=i*esz:=by
   exact ka0
 refine⟨he,hc,arr,ty,ds,x,hb,hs,hr,ha,by simpa [List.getD,List.getElem?_eq_getElem hi]using hx,?_,hz⟩;subst ed;obtain⟨_,ha2⟩:=At.append.1 ha;obtain⟨ha3,_⟩:=At.append.1 ha2;rw[←hla'];simpa using ha3
theorem qs_load{P : Program}{ε : Operand → AV}{H : Heap}{t : TypeId}{x : Operand}{C : Prop}{r : AV}
   (h:VT P H t (ε x)=some (C,r)) (hC:C):QS P (.load t x) ε H r:=
 .pure fun dst ty pos after guard c n w ρv hs hr=>by
   have hx:=hr x (by simp[Op.operands]);generalize hav:ε x=av at h hx;cases av<;>simp only[VT]at h<;>try (simp at h;done)
   ·rename_i d;simp only[Option.some.injEq,Prod.mk.injEq]at h;obtain⟨rfl,rfl⟩:=h;simp only[Rel,List.cons.injEq,and_true]at hx;obtain⟨b,off,arr,ds,ev,hb,hd,ha⟩:=hx;obtain⟨ty',fr,hw⟩:=hs.ro b arr hb;obtain⟨v,hv,hrel⟩:=Wq (P:=P) hd hw ha hC.1 hC.2;exact⟨v,by simp[execOp,ev,Instr.loadAt,Instr.sureAddr,hv],hrel⟩
   ·rename_i k ver off i p;unfold qLoadO at h;split at h
    ·rename_i ver' esz els hk;simp only[Option.some.injEq,Prod.mk.injEq,nth]at h;obtain⟨rfl,rfl⟩:=h;obtain⟨e1,e2,e3,e4,e5,e6⟩:=hC;subst e1;simp only[Rel,List.cons.injEq,and_true]at hx;obtain⟨b,cap,esz',hl,ev⟩:=hx;obtain⟨he,hc,arr,ty',ds,x,hb,hsz,hr,ha,hx,hax,_⟩:=(hs.own k _ hk).elem hl e2;obtain⟨a1,y,b1,ey,hly,hy⟩:=Rel.path p _ _ hx e4;subst ey;obtain⟨_,ha2⟩:=At.append.1 hax;obtain⟨ha3,_⟩:=At.append.1 ha2;rw[hly,←e3]at ha3;obtain⟨v,hv,hrel⟩:=Wq (P:=P) hy hb ha3 e5 e6;exact⟨v,by simp[execOp,ev,Instr.loadAt,Instr.sureAddr,hv],hrel⟩
    ·simp at h
theorem VO{P:Program}{t e:Nat}(h:WI P t=some e):∃el i,P.underlying t=some (.slice el)∧P.info? el=some i∧i.size=e:=by
 unfold WI at h;split at h
 ·rename_i el hu;cases hi:P.info? el with
  | none=>rw[hi]at h;simp at h
  | some i=>rw[hi]at h;simp at h;exact⟨el,i,hu,hi,h⟩
 ·simp at h
def qIdxO(P:Program)(t:TypeId)(k ver off len:Nat)(n:Int):Option AObj→Option (Prop×AV)
 | some (.arr ver' esz _)=>some (ver=ver'∧WI P t=some esz∧0≤n∧n<len,.loc k ver ((off+n.toNat)*esz) (off+n.toNat) [])
 | _=>none
def tAry(P:Program)(t:TypeId):Option (Nat×Nat):=
 match P.underlying t with
 | some (.array n e)=>(P.info? e).map fun i=>(n,i.size)
 | _=>none
theorem tAry_spec{P:Program}{t l e:Nat}(h:tAry P t=some (l,e)):∃el i,P.underlying t=some (.array l el)∧P.info? el=some i∧i.size=e:=by
 unfold tAry at h;split at h
 ·rename_i n el hu;cases hi:P.info? el with
  | none=>rw[hi]at h;simp at h
  | some i=>rw[hi]at h;simp at h;exact⟨el,i,by rw[hu,h.1],hi,h.2⟩
 ·simp at h
def qIdxA(k ver off i:Nat)(p:List Nat)(n:Int):Option (Nat×Nat)→Option (Prop×AV)
 | some (l,s)=>some (0≤n∧n<l,.loc k ver (off+n.toNat*s) i (p++[n.toNat]))
 | none=>none
def globOf:Value→Option Nat
 | .pointer (some ⟨b,0,none⟩)=>some b
 | _=>none
def qIdxG2(n:Int)(esz:Nat)(els:List AV):Option (Nat×Nat)→Option (Prop×AV)
 | some (l,s)=>some (0≤n∧n<l∧l=els.length∧s=esz,.rp (nth els n.toNat))
 | none=>none
def qIdxG1(P:Program)(t:TypeId)(n:Int):Option AObj→Option (Prop×AV)
 | some (.glob esz els)=>qIdxG2 n esz els (tAry P t)
 | _=>none
def qIdxG(P:Program)(H:Heap)(t:TypeId)(n:Int):Option Nat→Option (Prop×AV)
 | some b=>qIdxG1 P t n (H b)
 | none=>none
def Yu(P:Program)(H:Heap)(t:TypeId):AV→AV→Option (Prop×AV)
 | .sl esz xs,.int _ n=>some (WI P t=some esz∧0≤n∧n<xs.length,.rp (nth xs n.toNat))
 | .osl k ver off len,.int _ n=>qIdxO P t k ver off len n (H k)
 | .loc k ver off i p,.int _ n=>qIdxA k ver off i p n (tAry P t)
 | .raw v,.int _ n=>qIdxG P H t n (globOf v)
 | _,_=>none
theorem qs_indexAddr{P : Program}{ε : Operand → AV}{H : Heap}{t : TypeId}{x ix : Operand}{C : Prop}{r : AV}
   (h:Yu P H t (ε x) (ε ix)=some (C,r)) (hC:C):QS P (.indexAddr t x ix) ε H r:=
 .pure fun dst ty pos after guard c n w ρv hs hr=>by
   have hx:=hr x (by simp[Op.operands]);have hi:=hr ix (by simp[Op.operands]);generalize ε x=av at h hx;generalize ε ix=iv at h hi;cases av<;>cases iv<;>simp only[Yu]at h<;>try (simp at h;done)
   ·rename_i k ver off i p kk n;cases ht:tAry P t with
    | none=>rw[ht]at h;simp[qIdxA]at h
    | some ls=>
      obtain⟨l,sz⟩:=ls;rw[ht]at h;simp only[qIdxA,Option.some.injEq,Prod.mk.injEq]at h;obtain⟨rfl,rfl⟩:=h;obtain⟨e1,e2⟩:=hC;obtain⟨el,i9,hu,hin,hsz⟩:=tAry_spec ht;simp only[Rel,List.cons.injEq,and_true]at hx hi;obtain⟨b,cap,esz,hk,ev⟩:=hx;refine⟨.pointer (some ⟨b,off+n.toNat*sz,none⟩),?_,?_⟩
      ·simp[execOp,ev,hi,Instr.indexAt,asIntOf,Zc hu,ZU hin,hsz,e1,e2,Addr.add_plain,Instr.sureAddr]
      ·simp only[Rel];exact⟨b,cap,esz,hk,rfl⟩
   ·rename_i esz xs kk n;simp only[Option.some.injEq,Prod.mk.injEq,nth]at h;obtain⟨rfl,rfl⟩:=h;obtain⟨e1,e2,e3⟩:=hC;obtain⟨el,i,hu,hin,hsz⟩:=VO e1;simp only[Rel,List.cons.injEq,and_true]at hx hi;obtain⟨a,cap,ev,hcap,hz,hxs⟩:=hx;have hne:xs≠[]:=fun e=>by subst e;simp at e3;omega
    obtain⟨b,off,arr,ds,rfl,hb,hrf,ha⟩:=hxs.resolve_left hne;have hlt:n.toNat<xs.length:=om;obtain⟨a1,y,b1,ed,hy,hla,_,_⟩:=RelF.nth hrf (List.getElem?_eq_getElem hlt);have hla':a1.length=n.toNat*esz:=by
      exact ka0
    refine⟨.pointer (some ⟨b,off+n.toNat*esz,none⟩),?_,?_⟩
    ·simp[execOp,ev,hi,Instr.indexAt,asIntOf,Zc hu,ZU hin,hsz,e2,e3,Addr.add_plain]
    ·simp only[Rel];refine⟨b,_,arr,y,rfl,hb,by simpa [List.getD,List.getElem?_eq_getElem hlt]using hy,?_⟩;subst ed;obtain⟨_,ha2⟩:=At.append.1 ha;obtain⟨ha3,_⟩:=At.append.1 ha2;rw[←hla'];exact ha3
   ·rename_i k ver off len kk n;unfold qIdxO at h;split at h
    ·rename_i ver' esz els hk;simp only[Option.some.injEq,Prod.mk.injEq]at h;obtain⟨rfl,rfl⟩:=h;obtain⟨e0,e1,e2,e3⟩:=hC;subst e0;obtain⟨el,i,hu,hin,hsz⟩:=VO e1;simp only[Rel,List.cons.injEq,and_true]at hx hi;obtain⟨l,hl,hm⟩:=hx;have ho:=hs.own k _ hk;simp only[ZR]at ho;obtain⟨l',hl',hm'⟩:=ho;rw[hl]at hl';cases hl';cases l with
     | nil=>obtain⟨_,h2,_⟩:=hm;omega
     | blk b cap e=>
       obtain⟨cp,o',h1,h2,h3,ev⟩:=hm;have eo:o'=off*e:=by rcases h3 with h3 | h3<;>omega
       have ee:e=esz:=hm'.1;subst ee;refine⟨.pointer (some ⟨b,off*e+n.toNat*e,none⟩),?_,?_⟩
       ·simp[execOp,ev,eo,hi,Instr.indexAt,asIntOf,Zc hu,ZU hin,hsz,e2,e3,Addr.add_plain]
       ·simp only[Rel];exact⟨b,cap,e,hl,by rw[Nat.add_mul]⟩
    ·simp at h
   ·rename_i v kk n;unfold qIdxG at h;split at h
    ·rename_i b hg;unfold qIdxG1 at h;split at h
     ·rename_i esz els hk;cases ht:tAry P t with
      | none=>rw[ht]at h;simp[qIdxG2]at h
      | some ls=>
        obtain⟨l,sz⟩:=ls;rw[ht]at h;simp only[qIdxG2,Option.some.injEq,Prod.mk.injEq,nth]at h;obtain⟨rfl,rfl⟩:=h;obtain⟨e1,e2,e3,e4⟩:=hC;subst e4;obtain⟨el,i9,hu,hin,hsz⟩:=tAry_spec ht;have hv:v= .pointer (some ⟨b,0,none⟩):=by
          unfold globOf at hg;split at hg
          ·cases hg;rfl
          ·simp at hg
        simp only[Rel,List.cons.injEq,and_true]at hx hi;have ev:=hx.1;rw[hv]at ev;have ho:=hs.own b _ hk;simp only[ZR]at ho;obtain⟨_,hz,arr,ds,hb,hrf,ha⟩:=ho;have hlt:n.toNat<els.length:=om;obtain⟨a1,y,b1,ed,hy,hla,_,_⟩:=RelF.nth hrf (List.getElem?_eq_getElem hlt);have hla':a1.length=n.toNat*sz:=by
          exact ka0
        refine⟨.pointer (some ⟨b,n.toNat*sz,none⟩),?_,?_⟩
        ·simp[execOp,ev,hi,Instr.indexAt,asIntOf,Zc hu,ZU hin,hsz,e1,e2,Addr.add_plain,Instr.sureAddr]
        ·simp only[Rel];refine⟨b,_,arr,y,rfl,hb,by simpa [List.getD,List.getElem?_eq_getElem hlt]using hy,?_⟩;subst ed;obtain⟨_,ha2⟩:=At.append.1 ha;obtain⟨ha3,_⟩:=At.append.1 ha2;rw[←hla'];simpa using ha3
     ·simp at h
    ·simp at h
def intBits(op:BinOp)(k:IntKind)(x y:Int):Int:=
 match op with
 | .and=>k.wrap ((BitVec.ofInt k.bits x &&& BitVec.ofInt k.bits y).toNat:Int)
 | .or=>k.wrap ((BitVec.ofInt k.bits x ||| BitVec.ofInt k.bits y).toNat:Int)
 | .xor=>k.wrap ((BitVec.ofInt k.bits x ^^^ BitVec.ofInt k.bits y).toNat:Int)
 | _=>k.wrap ((BitVec.ofInt k.bits x &&& ~~~(BitVec.ofInt k.bits y)).toNat:Int)
def numsL:List AV→Option (List Int)
 | []=>some []
 | .int .i64 n::l=>(numsL l).map (n::·)
 | _::_=>none
def tNums (P:Program) (t:TypeId) (n:Nat):Prop:=P.underlying t=some (.struct (P.fieldsOf t))∧P.stoodInHeld t=false∧P.eqGuardType P.depth t=false∧(P.fieldsOf t).toList.length=n∧∀(i:Nat) (f:Field),(P.fieldsOf t).toList[i]? =some f→f.name≠ "_" ∧f.offset=i∧P.underlying f.type=some (.int .i64)
def qEqNums(P:Program)(t:TypeId):Option (List Int)→Option (List Int)→Option (Prop×AV)
 | some a,some b=>some (tNums P t a.length∧a.length=b.length,.bool (a==b))
 | _,_=>none
def tIsIf(P:Program)(t:TypeId):Bool:=match P.underlying t with | some (.interface _)=>true | _=>false
def Nw(P:Program)(t:TypeId):Bool:=match P.underlying t with | some (.interface ms)=>ms.isEmpty | _=>false
def Mw(P:Program)(t:TypeId):Bool:=match P.underlying t with | some (.func _ _ _)=>true | _=>false
theorem tIsIf_spec{P:Program}{t:TypeId}(h:tIsIf P t=true):∃ms,P.underlying t=some (.interface ms):=by unfold tIsIf at h;split at h<;>simp_all
theorem tIsAny_spec{P:Program}{t:TypeId}(h:Nw P t=true):∃ms,P.underlying t=some (.interface ms)∧ms.isEmpty=true:=by
 unfold Nw at h;split at h
 ·rename_i ms hu;exact⟨ms,hu,h⟩
 ·simp at h
theorem Nv{P:Program}{t:TypeId}(h:Mw P t=true):∃a b c,P.underlying t=some (.func a b c):=by unfold Mw at h;split at h<;>simp_all
def qSlNil(P:Program)(t:TypeId)(is:Bool):Value→Option (Prop×AV)
 | .slice a _ _=>some (Xt P t=true,.bool (a.isNone==is))
 | _=>none
def qBin(P:Program)(t:TypeId):BinOp→AV→AV→Option (Prop×AV)
 | .add,.int k a,.int k' b=>some (k=k',.int k (k.wrap (a+b)))
 | .sub,.int k a,.int k' b=>some (k=k',.int k (k.wrap (a-b)))
 | .mul,.int k a,.int k' b=>some (k=k',.int k (k.wrap (a*b)))
 | .quo,.int k a,.int k' b=>some (k=k'∧b≠0,.int k (k.wrap (a.tdiv b)))
 | .rem,.int k a,.int k' b=>some (k=k'∧b≠0,.int k (a.tmod b))
 | .and,.int k a,.int k' b=>some (k=k',.int k (intBits .and k a b))
 | .or,.int k a,.int k' b=>some (k=k',.int k (intBits .or k a b))
 | .xor,.int k a,.int k' b=>some (k=k',.int k (intBits .xor k a b))
 | .andNot,.int k a,.int k' b=>some (k=k',.int k (intBits .andNot k a b))
 | .shl,.int k a,.int _ b=>some (0≤b,.int k (k.wrap (a*2^(min b.toNat k.bits))))
 | .shr,.int k a,.int _ b=>some (0≤b,.int k (a.fdiv (2^(min b.toNat k.bits))))
 | .eql,.int k a,.int k' b=>some (k=k',.bool (a==b))
 | .neq,.int k a,.int k' b=>some (k=k',.bool (a !=b))
 | .lss,.int k a,.int k' b=>some (k=k',.bool (decide (a<b)))
 | .leq,.int k a,.int k' b=>some (k=k',.bool (decide (a≤b)))
 | .gtr,.int k a,.int k' b=>some (k=k',.bool (decide (b<a)))
 | .geq,.int k a,.int k' b=>some (k=k',.bool (decide (b≤a)))
 | .eql,.bool a,.bool b=>some (Ku P t=true,.bool (a==b))
 | .neq,.bool a,.bool b=>some (Ku P t=true,.bool (!(a==b)))
 | .eql,.str a,.str b=>some (True,.bool (a==b))
 | .neq,.str a,.str b=>some (True,.bool (!(a==b)))
 | .lss,.str a,.str b=>some (True,.bool (Op.bytesLess a b))
 | .eql,.rp _,.nilp=>some (Qb P t=true,.bool false)
 | .neq,.rp _,.nilp=>some (Qb P t=true,.bool true)
 | .eql,.loc _ _ _ _ _,.nilp=>some (Qb P t=true,.bool false)
 | .neq,.loc _ _ _ _ _,.nilp=>some (Qb P t=true,.bool true)
 | .eql,.nilp,.nilp=>some (Qb P t=true,.bool true)
 | .neq,.nilp,.nilp=>some (Qb P t=true,.bool false)
 | .eql,.agg xs,.agg ys=>qEqNums P t (numsL xs) (numsL ys)
 | .add,.str a,.str b=>some (((a.length+b.length:Nat):Int)≤9223372036854775807,.str (a++b))
 | .leq,.str a,.str b=>some (True,.bool (Op.bytesLess a b||a==b))
 | .gtr,.str a,.str b=>some (True,.bool (!(Op.bytesLess a b||a==b)))
 | .geq,.str a,.str b=>some (True,.bool (!Op.bytesLess a b))
 | .eql,.iface _ _,.nili=>some (tIsIf P t=true,.bool false)
 | .neq,.iface _ _,.nili=>some (tIsIf P t=true,.bool true)
 | .eql,.nili,.nili=>some (Nw P t=true,.bool true)
 | .neq,.nili,.nili=>some (Nw P t=true,.bool false)
 | .eql,.fn _ _ _,.nilf=>some (Mw P t=true,.bool false)
 | .neq,.fn _ _ _,.nilf=>some (Mw P t=true,.bool true)
 | .eql,.nilf,.nilf=>some (Mw P t=true,.bool true)
 | .neq,.nilf,.nilf=>some (Mw P t=true,.bool false)
 | .eql,.sl _ xs,.nilsl=>some (Xt P t=true∧0<xs.length,.bool false)
 | .neq,.sl _ xs,.nilsl=>some (Xt P t=true∧0<xs.length,.bool true)
 | .eql,.osl _ _ _ l,.nilsl=>some (Xt P t=true∧0<l,.bool false)
 | .neq,.osl _ _ _ l,.nilsl=>some (Xt P t=true∧0<l,.bool true)
 | .eql,.nilsl,.nilsl=>some (Xt P t=true,.bool true)
 | .neq,.nilsl,.nilsl=>some (Xt P t=true,.bool false)
 | .eql,.raw v,.nilsl=>qSlNil P t true v
 | .neq,.raw v,.nilsl=>qSlNil P t false v
 | _,_,_=>none
theorem PI(t:TypeId)(x y:Value):Op.equal t x y=Op.equalIn (9999+1) t x y:=rfl
theorem run_equal_bool{P:Program}{t:TypeId}(h:P.underlying t=some .bool)(a b:Bool)(w:World):(Op.equal t (.bool a) (.bool b)).run P w= .ok (a==b) w:=by
 exact kaP
theorem Ug{P:Program}{t e:TypeId}(h:P.underlying t=some (.pointer e))(a:Addr)(w:World):(Op.equal t (.pointer (some a)) (.pointer none)).run P w= .ok false w:=by
 exact kaP
theorem run_equal_nil_nil{P:Program}{t e:TypeId}(h:P.underlying t=some (.pointer e))(w:World):(Op.equal t (.pointer none) (.pointer none)).run P w= .ok true w:=by
 exact kaP
theorem JP{P:Program}{t:TypeId}{ms:Array (String×TypeId)}(h:P.underlying t=some (.interface ms))(ty:TypeId)(v:Value)(w:World):(Op.equal t (.iface ty v) .nilIface).run P w= .ok false w:=by
 exact kaP
theorem NF{P:Program}{t:TypeId}{ms:Array (String×TypeId)}(h:P.underlying t=some (.interface ms))(w:World):(Op.equal t .nilIface .nilIface).run P w= .ok true w:=by
 exact kaP
theorem Ky{P:Program}{t:TypeId}{ms:Array (String×TypeId)}(h:P.underlying t=some (.interface ms))(hm:ms.isEmpty=true)(w:World):(Op.eqGuardIn Op.maxDepth t .nilIface .nilIface).run P w= .ok false w:=by
 show(Op.eqGuardIn (9999+1) t .nilIface .nilIface).run P w= .ok false w;rw[Op.eqGuardIn];simp[Zc h,hm]
theorem LD{P:Program}{t:TypeId}{a b c}(h:P.underlying t=some (.func a b c))(f:Fn)(x y:Array Value)(w:World):(Op.equal t (.func f x y) .nilFunc).run P w= .ok false w:=by
 exact kaP
theorem NG{P:Program}{t:TypeId}{a b c}(h:P.underlying t=some (.func a b c))(w:World):(Op.equal t .nilFunc .nilFunc).run P w= .ok true w:=by
 exact kaP
theorem WO{P:Program}{t e:TypeId}(h:P.underlying t=some (.slice e))(a:Addr)(l c:Nat)(w:World):(Op.equal t (.slice (some a) l c) (.slice none 0 0)).run P w= .ok false w:=by
 exact kaP
theorem Uf{P:Program}{t e:TypeId}(h:P.underlying t=some (.slice e))(l c:Nat)(w:World):(Op.equal t (.slice none l c) (.slice none 0 0)).run P w= .ok true w:=by
 exact kaP
theorem LW{c:Ctx}:∀{xs:List AV} {a:List Int} {cs:List Value},numsL xs=some a→RelF c xs cs→cs=a.map (Value.int .i64)
 | [],a,cs,h,hr=>by
   simp only[numsL,Option.some.injEq]at h;subst h;simpa only[RelF,List.map_nil]using hr
 | x::xs,a,cs,h,hr=>by
   cases x with
   | int k n=>
     cases k with
     | i64=>
       simp only[numsL,Option.map_eq_some_iff]at h;obtain⟨b,hb,rfl⟩:=h;simp only[RelF,Rel]at hr;obtain⟨c1,c2,rfl,rfl,h2⟩:=hr;rw[LW hb h2];rfl
     | _=>simp[numsL]at h
   | _=>simp[numsL]at h
theorem Uh{P : Program}(w : World)(d : Nat)(A B : Array Value): ∀ (fs : List Field) (i : Nat) (a b : List Int), (∀ j, A[i + j]? = (a[j]?).map (Value.int .i64)) → (∀ j, B[i + j]? = (b[j]?).map (Value.int .i64)) → fs.length = a.length → a.length = b.length →
   (∀j f,fs[j]? =some f→f.name≠ "_" ∧f.offset=i+j∧P.underlying f.type=some (.int .i64))→(Op.eqFields (d+1) A B fs).run P w= .ok (a==b) w
 | [],i,a,b,_,_,h1,h2,_=>by
   have ha:a=[]:=List.eq_nil_of_length_eq_zero h1.symm;subst ha;have hb:b=[]:=List.eq_nil_of_length_eq_zero h2.symm;subst hb;rfl
 | f::fs,i,a,b,hA,hB,h1,h2,hf=>by
   cases a with
   | nil=>simp at h1
   | cons x a=>
     cases b with
     | nil=>simp at h2
     | cons y b=>
       obtain⟨g1,g2,g3⟩:=hf 0 f rfl;have hx:A[f.offset]? =some (.int .i64 x):=by have:=hA 0;rw[g2];simpa using this
       have hy:B[f.offset]? =some (.int .i64 y):=by have:=hB 0;rw[g2];simpa using this
       have ih:=Uh w d A B fs (i+1) a b (fun j=>by have:=hA (j+1);rw[show i+1+j=i+(j+1) by omega];simpa using this) (fun j=>by have:=hB (j+1);rw[show i+1+j=i+(j+1) by omega];simpa using this) (by simpa using h1) (by simpa using h2) (fun j g hg=>by
         obtain⟨k1,k2,k3⟩:=hf (j+1) g (by simpa using hg);exact⟨k1,om,k3⟩)
       have hpl:P.plainKey f.type=true:=by simp[Program.plainKey,g3]
       have hp1:=run_part_plain w hpl hx;have hp2:=run_part_plain w hpl hy;rw[Op.eqFields,if_pos g1];simp only[Sem.run_bind,hp1,hp2,Result.andThen_ok,run_equalIn_int w d f.type .i64 .i64 x y g3];cases hxy:(x==y)with
       | false=>simp[hxy]
       | true=>simp[ih,hxy]
theorem NE{P:Program}{t:TypeId}{c:Ctx}{xs ys:List AV}{a b:List Int}{A B:Array Value}(h:tNums P t a.length)(hl:a.length=b.length)(ha:numsL xs=some a)(hb:numsL ys=some b)(hx:RelF c xs A.toList)(hy:RelF c ys B.toList)(w:World):(Op.equal t (.agg A) (.agg B)).run P w= .ok (a==b) w:=by
 obtain⟨h1,h2,h3,h4,h5⟩:=h;have e1:=LW ha hx;have e2:=LW hb hy;rw[PI,run_equalIn_struct w 9999 t A B h1 h2];refine Uh w 9998 A B _ 0 a b (fun j=> ?_) (fun j=> ?_) h4 hl (fun j f hf=>by obtain⟨g1,g2,g3⟩:=h5 j f hf;exact⟨g1,om,g3⟩)
 ·rw[Nat.zero_add,←Array.getElem?_toList,e1,List.getElem?_map]
 ·rw[Nat.zero_add,←Array.getElem?_toList,e2,List.getElem?_map]
theorem qs_bin{P : Program}{ε : Operand → AV}{H : Heap}{op : BinOp}{t t' : TypeId}{x y : Operand}{C : Prop}{r : AV}
   (h:qBin P t op (ε x) (ε y)=some (C,r)) (hC:C):QS P (.binOp op t x y t') ε H r:=
 .pure fun dst ty pos after guard c n w ρv hs hr=>by
   have hx:=hr x (by simp[Op.operands]);have hy:=hr y (by simp[Op.operands]);clear hr;generalize ε x=a at h hx;generalize ε y=b at h hy;unfold qBin at h;split at h
   case h_50=>simp at h
   case h_29 xs ys=>
     unfold qEqNums at h;split at h
     ·rename_i a b ha hb;simp only[Option.some.injEq,Prod.mk.injEq]at h;obtain⟨h1,rfl⟩:=h;rw[←h1]at hC;obtain⟨g1,g2⟩:=hC;simp only[Rel,List.cons.injEq,and_true]at hx hy;obtain⟨A,ex,rx⟩:=hx;obtain⟨B,ey,ry⟩:=hy;refine⟨.bool _,?_,rfl⟩;simp[execOp,ex,ey,eqGuard,binOp,NE g1 g2 ha hb rx ry,run_program,g1.2.2.1]
     ·cases h
   case h_48 v | h_49 v=>all_goals
     unfold qSlNil at h;split at h
     ·rename_i a l cp;simp only[Option.some.injEq,Prod.mk.injEq]at h;obtain⟨h1,rfl⟩:=h;rw[←h1]at hC;obtain⟨e,he⟩:=X6 hC;simp only[Rel,List.cons.injEq,and_true]at hx hy;have hx:=hx.1;refine⟨.bool _,?_,rfl⟩;cases a<;>simp[execOp,hx,hy,eqGuard,binOp,WO he,Uf he]
     ·cases h
   all_goals
     simp only[Option.some.injEq,Prod.mk.injEq]at h;obtain⟨h1,rfl⟩:=h;rw[←h1]at hC;clear h1;simp only[Rel,List.cons.injEq,and_true]at hx hy
   case h_1 | h_2 | h_3 | h_6 | h_7 | h_8 | h_9=>all_goals
     subst hC;refine⟨.int _ _,?_,rfl⟩;simp[execOp,hx,hy,eqGuard,binOp,Op.intArith,Op.intBits,intBits]
   case h_4 | h_5=>all_goals
     obtain⟨hk,h0⟩:=hC;subst hk;refine⟨.int _ _,?_,rfl⟩;simp[execOp,hx,hy,eqGuard,binOp,Op.intDiv,h0]
   case h_10 | h_11=>all_goals
     have h0:¬(_<(0:Int)):=Int.not_lt.2 hC;refine⟨.int _ _,?_,rfl⟩;simp[execOp,hx,hy,eqGuard,binOp,Op.shift,h0]
   case h_12 | h_13 | h_14 | h_15 | h_16 | h_17=>all_goals
     subst hC;refine⟨.bool _,?_,rfl⟩;simp[execOp,hx,hy,eqGuard,binOp,Op.intCmp]
   case h_18 | h_19=>all_goals
     refine⟨.bool _,?_,rfl⟩;simp[execOp,hx,hy,eqGuard,binOp,run_equal_bool (tIsBool_spec hC)]
   case h_20 | h_21 | h_22=>all_goals
     refine⟨.bool _,?_,rfl⟩;simp[execOp,hx,hy,eqGuard,binOp,Op.stringOp]
   case h_23 | h_24=>all_goals
     obtain⟨b',off,arr,ds,ev,_⟩:=hx;obtain⟨e,he⟩:=QR hC;refine⟨.bool _,?_,rfl⟩;simp[execOp,ev,hy,eqGuard,binOp,Ug he]
   case h_25 | h_26=>all_goals
     obtain⟨b',cap,esz,_,ev⟩:=hx;obtain⟨e,he⟩:=QR hC;refine⟨.bool _,?_,rfl⟩;simp[execOp,ev,hy,eqGuard,binOp,Ug he]
   case h_27 | h_28=>all_goals
     obtain⟨e,he⟩:=QR hC;refine⟨.bool _,?_,rfl⟩;simp[execOp,hx,hy,eqGuard,binOp,run_equal_nil_nil he]
   case h_30=>
     rename_i a b;refine⟨.string ⟨(a++b).toArray⟩,?_,by simp only[Rel]⟩;have e1:¬(((⟨a.toArray⟩:ByteArray).size+(⟨b.toArray⟩:ByteArray).size:Nat):Int)>IntKind.i64.max:=by
       have h1:(⟨a.toArray⟩:ByteArray).size=a.length:=by simp[ByteArray.size]
       have h2:(⟨b.toArray⟩:ByteArray).size=b.length:=by simp[ByteArray.size]
       rw[h1,h2];have:IntKind.i64.max=9223372036854775807:=rfl;omega
     have e2:((⟨a.toArray⟩:ByteArray)++⟨b.toArray⟩)=⟨(a++b).toArray⟩:=by
       apply ByteArray.ext;simp
     simp only[execOp,hx,hy,eqGuard,binOp,Op.stringOp];rw[if_neg e1,e2];simp
   case h_31 | h_32 | h_33=>all_goals
     refine⟨.bool _,?_,rfl⟩;simp[execOp,hx,hy,eqGuard,binOp,Op.stringOp]
   case h_34 | h_35=>all_goals
     obtain⟨xv,ev,_⟩:=hx;obtain⟨ms,he⟩:=tIsIf_spec hC;refine⟨.bool _,?_,rfl⟩;simp[execOp,ev,hy,eqGuard,binOp,JP he]
   case h_36 | h_37=>all_goals
     obtain⟨ms,he,hms⟩:=tIsAny_spec hC;refine⟨.bool _,?_,rfl⟩;simp[execOp,hx,hy,eqGuard,binOp,NF he,Ky he hms]
   case h_38 | h_39=>all_goals
     obtain⟨fv,cv,ev,_⟩:=hx;obtain⟨a,b,c,he⟩:=Nv hC;refine⟨.bool _,?_,rfl⟩;simp[execOp,ev,hy,eqGuard,binOp,LD he]
   case h_40 | h_41=>all_goals
     obtain⟨a,b,c,he⟩:=Nv hC;refine⟨.bool _,?_,rfl⟩;simp[execOp,hx,hy,eqGuard,binOp,NG he]
   case h_42 | h_43=>all_goals
     obtain⟨hC,h0⟩:=hC;obtain⟨a,cap,ev,_,_,hxs⟩:=hx;obtain⟨e,he⟩:=X6 hC;obtain⟨b,off,arr,ds,rfl,_⟩:=hxs.resolve_left (fun e=>by rw[e]at h0;simp at h0);refine⟨.bool _,?_,rfl⟩;simp[execOp,ev,hy,eqGuard,binOp,WO he]
   case h_44 | h_45=>all_goals
     obtain⟨hC,h0⟩:=hC;obtain⟨l,_,hm⟩:=hx;obtain⟨e,he⟩:=X6 hC;cases l with
     | nil=>obtain⟨_,h2,_⟩:=hm;omega
     | blk b cap e'=>
       obtain⟨cp,o',_,_,_,ev⟩:=hm;refine⟨.bool _,?_,rfl⟩;simp[execOp,ev,hy,eqGuard,binOp,WO he]
   case h_46 | h_47=>all_goals
     obtain⟨e,he⟩:=X6 hC;refine⟨.bool _,?_,rfl⟩;simp[execOp,hx,hy,eqGuard,binOp,Uf he]
def qUn:UnOp→AV→Option (Prop×AV)
 | .not,.bool b=>some (True,.bool (!b))
 | .neg,.int k n=>some (True,.int k (k.wrap (0-n)))
 | .xor,.int k n=>some (True,.int k (intBits .xor k (if k.signed then -1 else k.max) n))
 | _,_=>none
theorem qs_un{P : Program}{ε : Operand → AV}{H : Heap}{op : UnOp}{t : TypeId}{x : Operand}{C : Prop}{r : AV}
   (h:qUn op (ε x)=some (C,r)):QS P (.unOp op t x) ε H r:=
 .pure fun dst ty pos after guard c n w ρv hs hr=>by
   have hx:=hr x (by simp[Op.operands]);generalize ε x=a at h hx;unfold qUn at h;split at h
   all_goals first
     | (simp at h;done)
     | (simp only [Option.some.injEq, Prod.mk.injEq] at h
        obtain⟨_,rfl⟩:=h;simp only[Rel,List.cons.injEq,and_true]at hx)
   ·exact⟨.bool _,by simp[execOp,hx,Op.unary],rfl⟩
   ·exact⟨.int _ _,by simp[execOp,hx,Op.unary,Op.intArith],rfl⟩
   ·exact⟨.int _ _,by simp[execOp,hx,Op.unary,Op.intBits,intBits],rfl⟩
def qNil:AV→Option (Prop×AV)
 | .rp d=>some (True,.rp d)
 | .loc k v o i p=>some (True,.loc k v o i p)
 | .fn (.func f) a b=>some (True,.fn (.func f) a b)
 | _=>none
theorem qs_nil{P : Program}{ε : Operand → AV}{H : Heap}{x : Operand}{C : Prop}{r : AV}
   (h:qNil (ε x)=some (C,r)):QS P (.nilCheck x) ε H r:=
 .pure fun dst ty pos after guard c n w ρv hs hr=>by
   have hx:=hr x (by simp[Op.operands]);generalize ε x=a at h hx;unfold qNil at h;split at h
   all_goals first
     | (simp at h;done)
     | (simp only [Option.some.injEq, Prod.mk.injEq] at h
        obtain⟨_,rfl⟩:=h;refine⟨ρv x,?_,hx⟩;simp only[Rel,List.cons.injEq,and_true]at hx)
   ·obtain⟨b,off,arr,ds,ev,_⟩:=hx;simp[execOp,ev]
   ·obtain⟨b,cap,esz,_,ev⟩:=hx;simp[execOp,ev]
   ·obtain⟨fv,cv,ev,_⟩:=hx;simp[execOp,ev]
theorem RelT.nth{c:Ctx}:∀{vs:List AV} {xs:List Value},RelT c vs xs→∀{i:Nat} {a:AV},vs[i]? =some a→∃v,xs[i]? =some v∧Rel c a false [v]
 | [],_,_,i,a,hi=>by simp at hi
 | f::fs,_,h,i,a,hi=>by
   simp only[RelT]at h;obtain⟨v,r,rfl,h1,h2⟩:=h;cases i with
   | zero=>simp at hi;subst hi;exact⟨v,osi,h1⟩
   | succ i=>simp at hi ⊢;exact RelT.nth h2 hi
def KC(i:Nat):AV→Option (Prop×AV)
 | .tup vs=>some (i<vs.length,vs.getD i .junk)
 | _=>none
theorem qs_extract{P : Program}{ε : Operand → AV}{H : Heap}{i : Nat}{x : Operand}{C : Prop}{r : AV}
   (h:KC i (ε x)=some (C,r)) (hC:C):QS P (.extract x i) ε H r:=
 .pure fun dst ty pos after guard c n w ρv hs hr=>by
   have hx:=hr x (by simp[Op.operands]);generalize ε x=a at h hx;unfold KC at h;split at h
   ·rename_i vs;simp only[Option.some.injEq,Prod.mk.injEq]at h;obtain⟨rfl,rfl⟩:=h;simp only[Rel,List.cons.injEq,and_true]at hx;obtain⟨arr,ev,hT⟩:=hx;obtain⟨v,hv,hr⟩:=RelT.nth hT (List.getElem?_eq_getElem hC);refine⟨v,?_,by simpa [List.getD,List.getElem?_eq_getElem hC]using hr⟩;have hv':arr[i]? =some v:=by simpa using hv
    simp[execOp,ev,Instr.extract,hv']
   ·simp at h
def qLen(P:Program)(t:TypeId):AV→Option (Prop×AV)
 | .sl _ xs=>some (Xt P t=true,.int .i64 xs.length)
 | .osl _ _ _ len=>some (Xt P t=true,.int .i64 len)
 | .nilsl=>some (Xt P t=true,.int .i64 0)
 | .str s=>some (XQ P t=true,.int .i64 s.length)
 | _=>none
def NQ(P:Program):Builtin→List TypeId→List AV→Option (Prop×AV)
 | .len,t::_,[a]=>qLen P t a
 | .max,_,[.int k x,.int k' y]=>some (k=k',.int k (max x y))
 | .min,_,[.int k x,.int k' y]=>some (k=k',.int k (min x y))
 | _,_,_=>none
theorem qs_builtin{P : Program}{ε : Operand → AV}{H : Heap}{b : Builtin}{ts : Array TypeId}{args : Array Operand}{C : Prop}{r : AV}
   (h:NQ P b ts.toList (args.toList.map ε)=some (C,r)) (hC:C):QS P (.call ⟨.builtin b,args,ts⟩) ε H r:=
 .pure fun dst ty pos after guard c n w ρv hs hr=>by
   obtain⟨az⟩:=args;obtain⟨ts⟩:=ts;have hr':∀x∈az,Rel c (ε x) false [ρv x]:=fun x hx=>hr x (by simp[Op.operands,Call.operands,hx]);clear hr;unfold NQ at h;split at h
   ·rename_i t0 ts' a hts heq;have hts:ts=t0::ts':=by simpa using hts
    subst hts;obtain⟨x,rfl⟩:∃x,az=[x]:=by rcases az with _ | ⟨x1,_ | ⟨x2,rest⟩⟩<;>simp at heq ⊢
    simp at heq;have hx:=hr' x osi;rw[heq]at hx;unfold qLen at h;split at h
    all_goals first
      | (simp at h;done)
      | (simp only [Option.some.injEq, Prod.mk.injEq] at h
         obtain⟨h1,rfl⟩:=h;rw[←h1]at hC;simp only[Rel,List.cons.injEq,and_true]at hx)
    ·obtain⟨e,he⟩:=X6 hC;obtain⟨a',cap,ev,_⟩:=hx;exact⟨.int _ _,by simp[execOp,resolve,invoke,builtin,Builtin.len_,ev,Zc he,goInt],rfl⟩
    ·obtain⟨e,he⟩:=X6 hC;obtain⟨l,hl,hm⟩:=hx;cases l with
     | nil=>
       obtain⟨_,h2,ev⟩:=hm;subst h2;exact⟨.int _ _,by simp[execOp,resolve,invoke,builtin,Builtin.len_,ev,Zc he,goInt],rfl⟩
     | blk b cap e'=>
       obtain⟨cp,o',_,_,_,ev⟩:=hm;exact⟨.int _ _,by simp[execOp,resolve,invoke,builtin,Builtin.len_,ev,Zc he,goInt],rfl⟩
    ·obtain⟨e,he⟩:=X6 hC;exact⟨.int _ _,by simp[execOp,resolve,invoke,builtin,Builtin.len_,hx,Zc he,goInt],rfl⟩
    ·refine⟨.int _ _,by simp[execOp,resolve,invoke,builtin,Builtin.len_,hx,Zc (Y3 hC),goInt];exact⟨rfl,rfl⟩,?_⟩;simp[Rel,ByteArray.size]
   ·rename_i ts' k x k' y heq;obtain⟨x1,x2,rfl⟩:∃x1 x2,az=[x1,x2]:=by rcases az with _ | ⟨x1,_ | ⟨x2,_ | ⟨x3,rest⟩⟩⟩<;>simp at heq ⊢
    simp at heq;have hx:=hr' x1 osi;have hy:=hr' x2 osi;rw[heq.1]at hx;rw[heq.2]at hy;simp only[Rel,List.cons.injEq,and_true]at hx hy;simp only[Option.some.injEq,Prod.mk.injEq]at h;obtain⟨h1,rfl⟩:=h;rw[←h1]at hC;subst hC;refine⟨.int _ _,by simp[execOp,resolve,invoke,builtin,Builtin.max_,Builtin.max2,hx,hy];exact⟨rfl,rfl⟩,?_⟩;simp only[Rel];congr 2;split<;>omega
   ·rename_i ts' k x k' y heq;obtain⟨x1,x2,rfl⟩:∃x1 x2,az=[x1,x2]:=by rcases az with _ | ⟨x1,_ | ⟨x2,_ | ⟨x3,rest⟩⟩⟩<;>simp at heq ⊢
    simp at heq;have hx:=hr' x1 osi;have hy:=hr' x2 osi;rw[heq.1]at hx;rw[heq.2]at hy;simp only[Rel,List.cons.injEq,and_true]at hx hy;simp only[Option.some.injEq,Prod.mk.injEq]at h;obtain⟨h1,rfl⟩:=h;rw[←h1]at hC;subst hC;refine⟨.int _ _,by simp[execOp,resolve,invoke,builtin,Builtin.min_,Builtin.min2,hx,hy];exact⟨rfl,rfl⟩,?_⟩;simp only[Rel];congr 2;split<;>omega
   ·simp at h
inductive ARes where
 | val (r:AV)
 | pan (p:AV)
def OpT(P:Program)(o:Oper)(ε:Operand→AV)(H:Heap)(n:Nat)(K:ARes→Heap→Nat→Prop):Prop:=
 ∀(c:Ctx) (w:World) (a:Act),Sim c H n w→(∀x∈o.op.operands,Rel c (ε x) false [a.eval x])→
   ∀(next:Act→World→Prop) (Q:Exit→Act→World→Prop),
     (∀r v c' H' n' w',K (.val r) H' n'→Step c H w c' H' n' w'→Rel c' r false [v]→next (a.put o.dst v) w')→
     (∀p v c' H' n' w',K (.pan p) H' n'→Step c H w c' H' n' w'→Rel c' p false [v]→Q (.panic [{v,recovered:=false}]) a w')→
     o.wp P a w next Q
theorem OpT.of_run{P : Program}{o : Oper}{ε : Operand → AV}{H : Heap}{n : Nat}{K : ARes → Heap → Nat → Prop}
   (h:∀(c:Ctx) (w:World) (ρv:Operand→Value),Sim c H n w→(∀x∈o.op.operands,Rel c (ε x) false [ρv x])→
     ∃r v c' H' n' w',((execOp ρv o).run P w= .ok (.value v) w'∨((execOp ρv o).run P w= .ok .skip w'∧v=undef))∧Step c H w c' H' n' w'∧Rel c' r false [v]∧K (.val r) H' n'):OpT P o ε H n K:=
 fun c w a hs hr next Q hn _=>by
   obtain⟨r,v,c',H',n',w',hrun,hst,hrel,V⟩:=h c w a.eval hs hr;unfold Oper.wp;rcases hrun with hrun | ⟨hrun,rfl⟩
   ·rw[hrun];exact hn r v c' H' n' w' V hst hrel
   ·rw[hrun];exact hn r undef c' H' n' w' V hst hrel
theorem OpT.mono{P : Program}{o : Oper}{ε : Operand → AV}{H : Heap}{n : Nat}{K K' : ARes → Heap → Nat → Prop}
   (h:OpT P o ε H n K) (hk:∀r H n,K r H n→K' r H n):OpT P o ε H n K':=fun c w a hs hr next Q hn hp=>
 h c w a hs hr next Q (fun r v c' H' n' w' V=>hn r v c' H' n' w' (hk _ _ _ V)) (fun r v c' H' n' w' V=>hp r v c' H' n' w' (hk _ _ _ V))
def Zn(P:Program)(f:FuncId)(args:List AV)(H:Heap)(n:Nat)(K:ARes→Heap→Nat→Prop):Prop:=
 ∀(c:Ctx) (w:World) (vs:List Value),Sim c H n w→RelT c args vs→
   Calls P f vs.toArray w fun e w'=>∃res c' H' n',K res H' n'∧Step c H w c' H' n' w'∧
     match e,res with
     | .returned v,.val r=>Rel c' r false [v]
     | .panicked ch,.pan p=>∃v,ch=[{v,recovered:=false}]∧Rel c' p false [v]
     | _,_=>False
theorem Zn.mono{P : Program}{f : FuncId}{args : List AV}{H : Heap}{n : Nat}{K K' : ARes → Heap → Nat → Prop}
   (h:Zn P f args H n K) (hk:∀r H n,K r H n→K' r H n):Zn P f args H n K':=fun c w vs hs hr=>
 (h c w vs hs hr).mono fun _ _ ⟨res,c',H',n',V,hst⟩=>⟨res,c',H',n',hk _ _ _ V,hst⟩
def Ret(P:Program)(f:FuncId)(args:List AV)(H:Heap)(n:Nat)(r:AV)(H':Heap)(n':Nat):Prop:=
 Zn P f args H n fun res h m=>res= .val r∧h=H'∧m=n'
theorem Ret.use{P : Program}{f : FuncId}{args : List AV}{H : Heap}{n : Nat}{r : AV}{H' : Heap}{n' : Nat}{K : ARes → Heap → Nat → Prop}
   (h:Ret P f args H n r H' n') (V:K (.val r) H' n'):Zn P f args H n K:=
 Zn.mono h (by rintro _ _ _ ⟨rfl,rfl,rfl⟩;exact V)
def Q6:Value→AV
 | .int k n=> .int k n
 | .bool b=> .bool b
 | .string s=> .str s.data.toList
 | .pointer none=> .nilp
 | .slice none 0 0=> .nilsl
 | .nilFunc=> .nilf
 | .map none=> .nilm
 | .nilIface=> .nili
 | v=> .raw v
theorem ofVal_rel(c:Ctx)(v:Value):Rel c (Q6 v) false [v]:=by
 unfold Q6;split<;>simp[Rel]
def evO(T:Nat→AV):Operand→AV
 | .tmp t=>T t
 | .const v=>Q6 v
 | .global g=> .raw (.pointer (some ⟨g,0,none⟩))
 | .func f=> .fn (.func f) [] []
def ZJ(c:Ctx)(T:Nat→AV)(tmps:Array Value):Prop:=∀t,Rel c (T t) false [tmps.getD t undef]
theorem ZJ.mono{c c':Ctx}(h:c.le c'){T:Nat→AV}{tmps:Array Value}(hr:ZJ c T tmps):ZJ c' T tmps:=fun t=>Rel.mono h _ _ _ (hr t)
theorem Wy{c:Ctx}{T:Nat→AV}{a:Act}(h:ZJ c T a.tmps)(x:Operand):Rel c (evO T x) false [a.eval x]:=by
 cases x with
 | tmp t=>exact h t
 | const v=>exact ofVal_rel c v
 | global g=>simp[evO,Act.eval,Rel]
 | func f=>simp only[evO,Act.eval,Rel];exact⟨#[],#[],rfl,by simp[RelT],by simp[RelT]⟩
def tput(T:Nat→AV)(dst:Option Tmp)(r:AV):Nat→AV:=
 match dst with
 | some d=>fun t=>if t=d then r else T t
 | none=>T
theorem Wn{c : Ctx}{T : Nat → AV}{a : Act}(h : ZJ c T a.tmps){dst : Option Tmp}{r : AV}{v : Value}(hr : Rel c r false [v])(hd : ∀ d, dst = some d → d < a.tmps.size):
   ZJ c (tput T dst r) (a.put dst v).tmps:=by
 cases dst with
 | none=>exact h
 | some d=>
   intro t;simp only[tput,Act.put];have hd:=hd d rfl;by_cases e:t=d
   ·subst e;rw[if_pos rfl];simpa [Array.getD,hd]using hr
   ·rw[if_neg e];have:=h t;have e2:(a.tmps.setIfInBounds d v).getD t undef=a.tmps.getD t undef:=by
      simp only[Array.getD_eq_getD_getElem?];rw[Array.getElem?_setIfInBounds_ne (Ne.symm e)]
    rw[e2];exact this
inductive AEx where
 | normal
 | exit (id:Nat)
 | ret
 | pan (p:AV)
abbrev KT:=(Nat→AV)→Heap→Nat→Prop
abbrev QK:=AEx→KT
def ZF(c:Ctx):AEx→Exit→Prop
 | .normal,.normal=>True
 | .exit i,.exit j=>i=j
 | .ret,.ret=>True
 | .pan p,.panic ch=>∃v,ch=[{v,recovered:=false}]∧Rel c p false [v]
 | _,_=>False
def Jt(N:Nat)(ds:List Deferred)(c:Ctx)(H:Heap)(w:World)(Q:QK)(e:Exit)(a':Act)(w':World):Prop:=
 ∃ae c' T' H' n',Q ae T' H' n'∧ZF c' ae e∧Step c H w c' H' n' w'∧ZJ c' T' a'.tmps∧a'.tmps.size=N∧a'.defers=ds
theorem Jt.step{N : Nat}{ds : List Deferred}{c c1 : Ctx}{H H1 : Heap}{n1 : Nat}{w w1 : World}{Q : QK}(h : Step c H w c1 H1 n1 w1){e : Exit}{a' : Act}{w' : World}
   (hp:Jt N ds c1 H1 w1 Q e a' w'):Jt N ds c H w Q e a' w':=by
 obtain⟨ae,c',T',H',n',hQ,hm,hst,hr⟩:=hp;exact⟨ae,c',T',H',n',hQ,hm,h.trans hst,hr⟩
def awp(P:Program)(N:Nat)(code:Code)(T:Nat→AV)(H:Heap)(n:Nat)(Q:QK):Prop:=
 ∀(c:Ctx) (w:World) (a:Act),Sim c H n w→ZJ c T a.tmps→a.tmps.size=N→∀ds,a.defers=ds→code.wp P (Jt N ds c H w Q) a w
theorem awp.mono{P : Program}{N : Nat}{code : Code}{T : Nat → AV}{H : Heap}{n : Nat}{Q Q' : QK}
   (h:awp P N code T H n Q) (hq:∀e T H n,Q e T H n→Q' e T H n):awp P N code T H n Q':=fun c w a hs hr hN ds hd=>
 Go.wp_mono (h c w a hs hr hN ds hd) fun _ _ _ ⟨ae,c',T',H',n',hQ,hm⟩=>⟨ae,c',T',H',n',hq _ _ _ _ hQ,hm⟩
section
variable {P:Program}{N:Nat}{T:Nat→AV}{H:Heap}{n:Nat}{Q:QK}
def ZK(K:KT)(Q:QK):QK
 | .normal,T,H,n=>K T H n
 | e,T,H,n=>Q e T H n
theorem JN{x y:Code}(h:awp P N x T H n (ZK (fun T H n=>awp P N y T H n Q) Q)):awp P N (.seq x y) T H n Q:=fun c w a hs hr hN ds hd=>by
 refine wp_seq (Go.wp_mono (h c w a hs hr hN ds hd) ?_);rintro e a' w' ⟨ae,c',T',H',n',hQ,hm,hst,hr',hN',hd'⟩;cases ae with
 | normal=>
   cases e<;>simp only[ZF]at hm;simp only[ZK]at hQ;show y.wp P _ a' w';exact Go.wp_mono (hQ c' w' a' hst.sim hr' hN' ds hd') fun e a2 w2 hp=>hp.step hst
 | exit i=>
   cases e<;>simp only[ZF]at hm;subst hm;exact⟨.exit i,c',T',H',n',hQ,rfl,hst,hr',hN',hd'⟩
 | ret=>
   cases e<;>simp only[ZF]at hm;exact⟨.ret,c',T',H',n',hQ,trivial,hst,hr',hN',hd'⟩
 | pan p=>
   cases e<;>simp only[ZF]at hm;exact⟨.pan p,c',T',H',n',hQ,hm,hst,hr',hN',hd'⟩
theorem Za{x y:Code}(h:∀K:KT,(∀T H n,awp P N y T H n Q→K T H n)→awp P N x T H n (ZK K Q)):awp P N (.seq x y) T H n Q:=
 JN (h _ fun _ _ _ h=>h)
theorem awp_skip(h:Q .normal T H n):awp P N .skip T H n Q:=fun c _ _ hs hr hN ds hd=>
 wp_skip ⟨.normal,c,T,H,n,h,trivial,.refl hs,hr,hN,hd⟩
theorem awp_ret(h:Q .ret T H n):awp P N .ret T H n Q:=fun c _ _ hs hr hN ds hd=>
 wp_ret ⟨.ret,c,T,H,n,h,trivial,.refl hs,hr,hN,hd⟩
theorem awp_exit{i:Nat}(h:Q (.exit i) T H n):awp P N (.exit i) T H n Q:=fun c _ _ hs hr hN ds hd=>
 wp_exit ⟨.exit i,c,T,H,n,h,rfl,.refl hs,hr,hN,hd⟩
theorem awp_cond{x:Operand}{s t:Code}{b:Bool}(hc:evO T x= .bool b)(ht:b=true→awp P N s T H n Q)(hf:b=false→awp P N t T H n Q):awp P N (.cond x s t) T H n Q:=fun c w a hs hr hN ds hd=>by
 have hx:=Wy hr x;rw[hc]at hx;simp only[Rel,List.cons.injEq,and_true]at hx;cases b with
 | true=>exact wp_cond hx (by simpa using ht rfl c w a hs hr hN ds hd)
 | false=>exact wp_cond hx (by simpa using hf rfl c w a hs hr hN ds hd)
def Ju(id:Nat)(Q:QK):QK
 | .exit i,T,H,n=>if i=id then Q .normal T H n else Q (.exit i) T H n
 | e,T,H,n=>Q e T H n
theorem Zq{id:Nat}{x:Code}(h:awp P N x T H n (Ju id Q)):awp P N (.block id x) T H n Q:=fun c w a hs hr hN ds hd=>by
 refine wp_block (Go.wp_mono (h c w a hs hr hN ds hd) ?_);rintro e a' w' ⟨ae,c',T',H',n',hQ,hm,hst,hr',hN',hd'⟩;cases ae with
 | normal=>
   cases e<;>simp only[ZF]at hm;exact⟨.normal,c',T',H',n',hQ,trivial,hst,hr',hN',hd'⟩
 | exit i=>
   cases e<;>simp only[ZF]at hm;subst hm;simp only[Ju]at hQ;simp only[Exit.inBlock];split
   ·rename_i e;subst e;rw[if_pos rfl]at hQ;exact⟨.normal,c',T',H',n',hQ,trivial,hst,hr',hN',hd'⟩
   ·rename_i e;rw[if_neg (fun h=>e h)]at hQ;exact⟨.exit i,c',T',H',n',hQ,rfl,hst,hr',hN',hd'⟩
 | ret=>
   cases e<;>simp only[ZF]at hm;exact⟨.ret,c',T',H',n',hQ,trivial,hst,hr',hN',hd'⟩
 | pan p=>
   cases e<;>simp only[ZF]at hm;exact⟨.pan p,c',T',H',n',hQ,hm,hst,hr',hN',hd'⟩
theorem least{Z:Nat→Prop}(h:∃m,Z m):∃m,Z m∧∀k,Z k→m≤k:=by
 obtain⟨m,hm⟩:=h
 induction m using Nat.strongRecOn with
 | _ m ih=>
   by_cases hx:∃k,k<m∧Z k
   ·obtain⟨k,hk,hz⟩:=hx;exact ih k hk hz
   ·exact ⟨m, hm, fun k hk => by
      rcases Nat.lt_or_ge k m with h | h
      ·exact absurd ⟨k,h,hk⟩ hx
      ·exact h⟩
theorem Zk{x : Code}(I : KT)(μ : (Nat → AV) → Heap → Nat → Nat)(h0 : I T H n)
   (hround:∀T H n,I T H n→awp P N x T H n (ZK (fun T' H' n'=>I T' H' n'∧μ T' H' n'<μ T H n) Q)):awp P N (.loop x) T H n Q:=fun c w a hs hr hN ds hd=>by
 classical
 let Z (m:Nat) (a':Act) (w':World):Prop:=∃c' T' H' n',I T' H' n'∧μ T' H' n'=m∧Step c H w c' H' n' w'∧ZJ c' T' a'.tmps∧a'.tmps.size=N∧a'.defers=ds
 refine wp_loop (fun a' w'=>∃m,Z m a' w') (fun a' w'=>if hz:∃m,Z m a' w' then Classical.choose (least hz)else 0) ⟨μ T H n,c,T,H,n,h0,rfl,.refl hs,hr,hN,hd⟩ ?_;intro a1 w1 hz;rw[dif_pos hz];obtain⟨c1,T1,H1,n1,hI,hμ,hst,hr1,hN1,hd1⟩:=(Classical.choose_spec (least hz)).1;refine Go.wp_mono (hround T1 H1 n1 hI c1 w1 a1 hst.sim hr1 hN1 ds hd1) ?_;rintro e a' w' ⟨ae,c',T',H',n',hQ,hm,hst',hr',hN',hd'⟩;cases ae with
 | normal=>
   cases e<;>simp only[ZF]at hm;simp only[ZK]at hQ;have hz':∃m,Z m a' w':=⟨_,c',T',H',n',hQ.1,rfl,hst.trans hst',hr',hN',hd'⟩;refine⟨hz',?_⟩;rw[dif_pos hz'];exact Nat.lt_of_le_of_lt ((Classical.choose_spec (least hz')).2 _ ⟨c',T',H',n',hQ.1,rfl,hst.trans hst',hr',hN',hd'⟩) (hμ▸hQ.2)
 | exit i=>
   cases e<;>simp only[ZF]at hm;subst hm;exact⟨.exit i,c',T',H',n',hQ,rfl,hst.trans hst',hr',hN',hd'⟩
 | ret=>
   cases e<;>simp only[ZF]at hm;exact⟨.ret,c',T',H',n',hQ,trivial,hst.trans hst',hr',hN',hd'⟩
 | pan p=>
   cases e<;>simp only[ZF]at hm;exact⟨.pan p,c',T',H',n',hQ,hm,hst.trans hst',hr',hN',hd'⟩
end
end Go.Sx
namespace Go.Sx
theorem qb{α β:Type}(f:α→β){l:List α}:(l.map f).length=l.length:=List.length_map f
theorem qd(n:Nat):(n:Int).toNat=n:=Int.toNat_natCast n
theorem qe{α:Type}{a b:List α}:(a++b).length=a.length+b.length:=List.length_append
theorem qf{α:Type}(a b c:List α):a++b++c=a++(b++c):=List.append_assoc a b c
theorem qg(a b c:Nat):a+b+c=a+(b+c):=Nat.add_assoc a b c
theorem qh{α:Type}{a:α}:[a].length=1:=List.length_singleton
theorem qi{α:Type}{a:α}{l:List α}:(a::l).length=l.length+1:=List.length_cons
theorem qj{α β:Type}{f:α→β}{a b:List α}:(a++b).map f=a.map f++b.map f:=List.map_append
theorem qk{α:Type}{i:Nat}{l:List α}:(l.take i).length=min i l.length:=List.length_take
end Go.Sx
