/- Pages, rows, cells and tokens that were handed out lie untouched, and share no memory. The condition: what comes in is of bulk at most 1048576; the table is laid as the program's text says. -/
import Derived.Test.YtkmkbndcekklmaaGreatDoorRows
import Derived.Test.YtkmkbndcekklmaaGreatDoorCards
import Derived.Test.YtkmkbndcekklmaaGreatDoorTie
import Derived.Test.YtkmkbndcekklmaaGreatDoorPL
import Derived.Test.YtkmkbndcekklmaaGreatDoorPN
import Derived.OpenShut
import Derived.Deep.DeepHandedRow
import Derived.ShutString
set_option linter.unusedSimpArgs false
set_option linter.unusedVariables false
set_option maxRecDepth 10000
namespace Go.Proofs.YtkmkbndcekklmaaGreatDoor.qlent
open Go Go.Sx Go.Rt Go.Proofs Go.ChangeShapes Go.WideShapes Go.ChangeAt Go.RowKit Tryz
theorem walk(x0 : QryE)(x1 : QryE)(x2 : List RowE)(hq0 : x0.fine)(hq1 : x1.fine)(hw2 : YA x2)(hn2 : x2.length ≤ 1048573){W : World}(hw : laidMetH prog tabs W)(v0 : Value)(v1 : Value)(v2 : Value)(h0 : Rel (c0 W) (Ze x0) false [v0])(h1 : Rel (c0 W) (Ze x1) false [v1])(h2 : Rel (c0 W) (.sl 2 (x2.map Zf)) false [v2]):
   Calls prog 3 #[v0,v1,v2] W fun e w'=>e= .returned (.bool true)∧Below W.heap.size W w':=
 retG hw (Lj x0 hq0 x1 hq1 x2 hw2 hn2 _ _ gokG) ⟨v0,_,rfl,h0,v1,_,rfl,h1,v2,_,rfl,h2,rfl⟩
theorem laid_met(os:Os):laidMet prog Rows.queryLentUptoRow.laid ((LY os).forCall (fun _ _=>0) ⟨#[],#[.agg #[.slice none 0 0,.slice none 0 0,.slice none 0 0,.slice none 0 0,.int .i64 0,.int .i64 0,.int .i64 0,.bool false,.string ⟨#[]⟩,.slice none 0 0],.agg #[.slice none 0 0,.slice none 0 0,.slice none 0 0,.slice none 0 0,.int .i64 0,.int .i64 0,.int .i64 0,.bool false,.string ⟨#[]⟩,.slice none 0 0],.slice none 0 0],[]⟩).memory:=
 laidMet_of_run' 8 (by kernel_rfl) (by kernel_rfl)
theorem reads(os:Os){H:Type}(enc:TypeId×Value→H):∃places,DataW.whole enc prog ((LY os).forCall (fun _ _=>0) ⟨#[],#[.agg #[.slice none 0 0,.slice none 0 0,.slice none 0 0,.slice none 0 0,.int .i64 0,.int .i64 0,.int .i64 0,.bool false,.string ⟨#[]⟩,.slice none 0 0],.agg #[.slice none 0 0,.slice none 0 0,.slice none 0 0,.slice none 0 0,.int .i64 0,.int .i64 0,.int .i64 0,.bool false,.string ⟨#[]⟩,.slice none 0 0],.slice none 0 0],[]⟩).memory f3.params.toList Rows.queryLentSpec.vars false (#[.agg #[.slice none 0 0,.slice none 0 0,.slice none 0 0,.slice none 0 0,.int .i64 0,.int .i64 0,.int .i64 0,.bool false,.string ⟨#[]⟩,.slice none 0 0],.agg #[.slice none 0 0,.slice none 0 0,.slice none 0 0,.slice none 0 0,.int .i64 0,.int .i64 0,.int .i64 0,.bool false,.string ⟨#[]⟩,.slice none 0 0],.slice none 0 0]:Array Value).toList 8=some ([.agg [.nil,.nil,.nil,.nil,.lit (.int .i64 0),.lit (.int .i64 0),.lit (.int .i64 0),.lit (.bool false),.lit (.string []),.nil],.agg [.nil,.nil,.nil,.nil,.lit (.int .i64 0),.lit (.int .i64 0),.lit (.int .i64 0),.lit (.bool false),.lit (.string []),.nil],.nil],[],places):=
 ⟨[],by kernel_rfl⟩
set_option maxRecDepth 100000 in
theorem contract(H : Type)(enc : TypeId × Value → H)(W : World)(base : Nat)(args : Array Value)(ds gs : List (DataW H))(before : List MemPlace)
   (hval0:∀(j:Nat) t v,f3.params[j]? =some t→args[j]? =some v→Value.okWide prog W .any base t v)
   (hW:DataW.Whole enc prog f3.params.toList Rows.queryLentSpec.vars false W args.toList ds gs before) (hL:laidMetH prog Rows.queryLentUptoRow.laid W) (hk:Rows.uptoSmall H (ds++gs)=true):
   Calls prog 3 args W fun e W'=>∃v,e= .returned v∧Rows.queryLentSpec.post enc prog f3 false true false false W args v W':=by
 have hval:∀(j:Nat) t v,f3.params[j]? =some t→args[j]? =some v→Value.okWide prog W .any base t v:=hval0;have hW':=hW;obtain⟨p,q,hA0,hV,rfl,hfz,hnd⟩:=hW;have hA:DataW.TrodAll enc prog W 0 (fun _=>true) true f3.params.toList args.toList ds p:=hA0;rw[params3]at hA hval;obtain⟨v0,vs0,d0,ds0,p0,q0,hargs,rfl,rfl,h0,r0⟩:=trodAll_cons hA;obtain⟨v1,vs1,d1,ds1,p1,q1,rfl,rfl,rfl,h1,r1⟩:=trodAll_cons r0;obtain⟨v2,vs2,d2,ds2,p2,q2,rfl,rfl,rfl,h2,r2⟩:=trodAll_cons r1;obtain⟨rfl,rfl,rfl⟩:=trodAll_nil r2;obtain rfl:args= #[v0,v1,v2]:=by cases args;simp_all
 obtain⟨rfl,rfl⟩:=trodVars_none hV;have lt0:∀x∈p0,x.block<W.heap.size:=by obtain⟨m,hm⟩:=h0;exact DataW.trod_lt m _ _ _ hm
 have lt1:∀x∈p1,x.block<W.heap.size:=by obtain⟨m,hm⟩:=h1;exact DataW.trod_lt m _ _ _ hm
 have lt2:∀x∈p2,x.block<W.heap.size:=by obtain⟨m,hm⟩:=h2;exact DataW.trod_lt m _ _ _ hm
 have hbk:=of_decide_eq_true hk;simp only[Rows.uptoBulkAll,List.append_nil]at hbk;obtain⟨x0,g0,hq0⟩:=argQry (hval 0 25 v0 rfl rfl) h0 (by omega);obtain⟨x1,g1,hq1⟩:=argQry (hval 1 25 v1 rfl rfl) h1 (by omega);obtain⟨x2,g2,hw2,hc2⟩:=argRowsB (hval 2 26 v2 rfl rfl) h2 (by omega);clear hA0 hval0;have hp0:=P8 d0;have hp9:=qry_four h0;have hp1:=P8 d1;have hp2:=P8 d2;have hn2:x2.length≤1048573:=by omega
 refine(walk x0 x1 x2 hq0 hq1 hw2 hn2 hL v0 v1 v2 g0 g1 g2).mono fun e W' ⟨he,bel⟩=> ?_;subst he;exact⟨_,rfl,_,_,_,[],_,[],hW',trodAll_mk1 (shut_bool underlying4 _),(trodAll_cons_mk (Below.trod laid9 (by kernel_rfl) (of_decide_eq_true (by kernel_rfl)) h0 bel lt0) (trodAll_cons_mk (Below.trod laid9 (by kernel_rfl) (of_decide_eq_true (by kernel_rfl)) h1 bel lt1) (trodAll_cons_mk (Below.trod laid9 (by kernel_rfl) (of_decide_eq_true (by kernel_rfl)) h2 bel lt2) trodAll_mk0))),rfl,bel.frame _,fun h=>by cases h⟩
set_option maxRecDepth 100000 in
theorem lifted(os : Os)(started : os.Started)(H : Type)(enc : TypeId × Value → H)(F : Stop.Interp):
   ReturnsInHanded {} checked os 3 .any ((Rows.OpenSpec.upto Rows.queryLentSpec).preRow enc prog f3 Rows.queryLentUptoRow.domain false Rows.queryLentUptoRow.laid) (((Rows.OpenSpec.upto Rows.queryLentSpec).at F).post enc prog f3 false true false false):=by
 obtain⟨places,hx⟩:=reads os enc
 refine returnsInHanded_of_row (C:=checked) (s:=Rows.OpenSpec.upto Rows.queryLentSpec) own9 started (by kernel_rfl) func3
   (witness_row_at (enc:=enc) (C:=checked) false (LY os) #[.agg #[.slice none 0 0,.slice none 0 0,.slice none 0 0,.slice none 0 0,.int .i64 0,.int .i64 0,.int .i64 0,.bool false,.string ⟨#[]⟩,.slice none 0 0],.agg #[.slice none 0 0,.slice none 0 0,.slice none 0 0,.slice none 0 0,.int .i64 0,.int .i64 0,.int .i64 0,.bool false,.string ⟨#[]⟩,.slice none 0 0],.slice none 0 0] rfl (by kernel_rfl) (by kernel_rfl) (by kernel_rfl)
     (OpenSpec.preRow_of_cond 8 hx (by kernel_rfl) (fun k hk=>by cases hk;kernel_rfl) (by kernel_rfl) (laid_met os))) ?_
 intro W base args ds gs before hval hW _ hk _ hL _ _;exact contract H enc W base args ds gs before hval hW hL (hk _ rfl)
theorem said:Rows.QueryLentUptoSaid:=
 OpenClaim.holds_of_cond 3 f3 rfl rfl rfl rfl rfl rfl rfl ⟨rfl,rfl,rfl,rfl,rfl⟩ rfl rfl rfl rfl rfl (by kernel_rfl) func3 (by kernel_rfl)
   (of_decide_eq_true (by kernel_rfl)) (by unfold Func.isWrapper;first | (rw[if_pos (by decide +kernel)];kernel_rfl) | (rw[if_neg (by decide +kernel)];exact⟨rfl,rfl⟩))
   (fun os started H enc _ F=>by rw[OpenClaim.pre_eq_preRow];exact lifted os started H enc F)
set_option maxRecDepth 100000 in
theorem plain (f : FuncId) (fn : Func) (hf : pinned.checked.prog.funcNamed "strata/stratalaw13.QueryLent" = some f) (hfn : pinned.checked.prog.funcs[f]? = some fn) :
   true=pinned.checked.prog.looks []∧∀(j:Nat) t,fn.params[j]? =some t→pinned.checked.prog.wantsStandIn t=false:=by
 obtain rfl:f=3:=Option.some.inj ((show(prog).funcNamed "strata/stratalaw13.QueryLent" =some 3 by kernel_rfl).symm.trans hf) |>.symm
 obtain rfl:fn=f3:=(Option.some.inj (func3.symm.trans hfn)).symm;refine⟨by kernel_rfl,fun j t ht=> ?_⟩;rw[params3]at ht;have hm:=Array.mem_of_getElem? ht;simp only[List.mem_toArray,List.mem_cons,List.not_mem_nil,or_false]at hm;rcases hm with rfl | rfl | rfl<;>first | exact(show(prog).wantsStandIn 26=false by kernel_rfl) | exact(show(prog).wantsStandIn 25=false by kernel_rfl)
theorem proved:Rows.QueryLentUptoCardSaid:=
 Claim7.holds_tied_plain_at .later [] _ _ _ _ said (fun _ h=>by cases h) (by kernel_rfl) (fun _ h=>by cases h) queryLentUpto_row_tie rfl ⟨rfl,rfl⟩ (by kernel_rfl) rfl plain (by kernel_rfl)
end Go.Proofs.YtkmkbndcekklmaaGreatDoor.qlent