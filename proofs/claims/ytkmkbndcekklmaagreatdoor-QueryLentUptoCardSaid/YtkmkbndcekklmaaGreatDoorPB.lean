/- Own layer 'Sx', part D2: more quiet operations: conversions, parts, slices, literals. Of every program; no condition. -/
import Derived.Test.YtkmkbndcekklmaaGreatDoorPA
import Derived.Laws.BytesArg
import Derived.Laws.Append
import Derived.Laws.Strings2
import Derived.Laws.IdiomStrings
import Derived.MapKept
import Derived.Laws.MakeOwn
set_option linter.unusedSimpArgs false
set_option linter.unusedVariables false
namespace Go.Sx
open Go
def tInt(P:Program)(t:TypeId):Option IntKind:=match P.underlying t with | some (.int k)=>some k | _=>none
theorem tInt_spec{P:Program}{t:TypeId}{k:IntKind}(h:tInt P t=some k):P.underlying t=some (.int k):=by unfold tInt at h;split at h<;>simp_all
def Wo(P:Program)(t:TypeId):Bool:=match P.underlying t with | some (.slice e)=>tInt P e==some .u8 | _=>false
theorem VN{P:Program}{t:TypeId}(h:Wo P t=true):∃e,P.underlying t=some (.slice e)∧P.underlying e=some (.int .u8):=by
 unfold Wo at h;split at h
 ·rename_i e he;exact⟨e,he,tInt_spec (by simpa using h)⟩
 ·simp at h
def Zd(b:UInt8):AV:= .int .u8 b.toNat
def isByte:AV→Prop
 | .int .u8 n=>0≤n∧n<256
 | _=>False
def byteOf':AV→UInt8
 | .int _ n=>UInt8.ofNat n.toNat
 | _=>0
theorem isByte_spec{c:Ctx}{x:AV}{cs:List Value}(hb:isByte x)(h:Rel c x true cs):∃n:Int,cs=[.int .u8 n]∧byteOf' x=UInt8.ofNat n.toNat∧x.sz=1:=by
 cases x<;>simp only[isByte]at hb;rename_i k n;cases k<;>simp only at hb;simp only[Rel]at h;exact⟨n,h,rfl,by simp[AV.sz]⟩
theorem Jj{c:Ctx}:∀(xs:List AV) (ds:List Value),(∀x∈xs,isByte x)→RelF c xs ds→∃ns:List Int,ds=ns.map (Value.int .u8)∧ns.length=xs.length∧(ns.map fun n=>UInt8.ofNat n.toNat)=xs.map byteOf'
 | [],ds,_,h=>by simp only[RelF]at h;subst h;exact⟨[],rfl,rfl,rfl⟩
 | x::xs,ds,hb,h=>by
   simp only[RelF]at h;obtain⟨c1,c2,rfl,h1,h2⟩:=h;obtain⟨n,rfl,e1,_⟩:=isByte_spec (hb x osi) h1;obtain⟨ns,rfl,e2,e3⟩:=Jj xs c2 (fun y hy=>hb y (by simp[hy])) h2;exact⟨n::ns,rfl,by simp[e2],by simp[e1,e3]⟩
def XD(P:Program)(s d:TypeId):AV→Option (Prop×AV)
 | .int _ n=>match tInt P d with
   | some k=>some (ZX P s=true,.int k (k.wrap n))
   | none=>none
 | .sl _ xs=>some (Wo P s=true∧XQ P d=true∧∀x∈xs,isByte x,.str (xs.map byteOf'))
 | .nilsl=>some (Wo P s=true∧XQ P d=true,.str [])
 | .str b=>some (XQ P s=true∧XQ P d=true,.str b)
 | _=>none
theorem NN{P : Program}{ε : Operand → AV}{H : Heap}{s d : TypeId}{x : Operand}{C : Prop}{r : AV}
   (h:XD P s d (ε x)=some (C,r)) (hC:C):QS P (.convert s d x) ε H r:=
 .pure fun dst ty pos after guard c n w ρv hs hr=>by
   have hx:=hr x (by simp[Op.operands]);generalize ε x=a at h hx;unfold XD at h;split at h
   ·split at h
    ·rename_i k hk;simp only[Option.some.injEq,Prod.mk.injEq]at h;obtain⟨rfl,rfl⟩:=h;simp only[Rel,List.cons.injEq,and_true]at hx;obtain⟨us,hus⟩:=Option.isSome_iff_exists.1 hC;exact⟨.int _ _,by simp[execOp,hx,convert,Zc hus,Zc (tInt_spec hk),Conv.intToInt],rfl⟩
    ·simp at h
   ·rename_i e xs;simp only[Option.some.injEq,Prod.mk.injEq]at h;obtain⟨rfl,rfl⟩:=h;obtain⟨h1,h2,h3⟩:=hC;obtain⟨el,hu,he⟩:=VN h1;have hd:=Y3 h2;simp only[Rel,List.cons.injEq,and_true]at hx;obtain⟨a,cap,ev,hcap,_,hxs⟩:=hx;by_cases hne:xs=[]
    ·subst hne;refine⟨.string ⟨#[]⟩,?_,by simp[Rel]⟩;cases a with
     | none=>simp[execOp,ev,convert,Zc hu,Zc hd,Zc he,Conv.bytesToString];rfl
     | some ad=>simp[execOp,ev,convert,Zc hu,Zc hd,Zc he,Conv.bytesToString,loadCells,loadCellsFrom];rfl
    ·obtain⟨b,off,arr,ds,rfl,hb,hrf,ha⟩:=hxs.resolve_left hne;obtain⟨ns,rfl,hl,hns⟩:=Jj xs ds h3 hrf;obtain⟨ty',fr,hw⟩:=hs.ro b arr hb;refine⟨.string (strOfNums ns),?_,?_⟩
     ·have := run_convert_bytes_arg (P := P) w s el hu he b off xs.length cap ns hl (fun i hi => by
        have hi':i<ns.length:=om;have:=ha i (.int .u8 ns[i]) (by simp[hi']);simp only[World.cell?,hw];simpa [List.getD,List.getElem?_eq_getElem hi']using this) d hd
      simp[execOp,ev,this]
     ·simp only[Rel];rw[←hns];rfl
   ·simp only[Option.some.injEq,Prod.mk.injEq]at h;obtain⟨rfl,rfl⟩:=h;obtain⟨el,hu,he⟩:=VN hC.1;have hd:=Y3 hC.2;simp only[Rel,List.cons.injEq,and_true]at hx;refine⟨.string ⟨#[]⟩,?_,by simp[Rel]⟩;simp[execOp,hx,convert,Zc hu,Zc hd,Zc he,Conv.bytesToString];rfl
   ·simp only[Option.some.injEq,Prod.mk.injEq]at h;obtain⟨rfl,rfl⟩:=h;have hs':=Y3 hC.1;have hd:=Y3 hC.2;refine⟨ρv x,?_,hx⟩;simp only[Rel,List.cons.injEq,and_true]at hx;simp[execOp,hx,convert,Zc hs',Zc hd]
   ·simp at h
def tArr(P:Program)(t:TypeId):Option (Nat×Nat×Bool):=
 match P.underlying t with
 | some (.array n e)=>(P.info? e).map fun i=>(n,i.size,tAgg P e)
 | _=>none
def ZC(P:Program)(t f:Nat):Bool:=
 match P.underlying t with
 | some (.struct fs)=>match fs[f]? with
   | some d=>tAgg P d.type&&ZX P d.type
   | none=>false
 | _=>false
def ZB(P:Program)(t f:Nat):Bool:=
 match P.underlying t with
 | some (.struct fs)=>match fs[f]? with
   | some d=>ZX P d.type
   | none=>false
 | _=>false
theorem run_part{P : Program}{c : Ctx}{t : TypeId}{w : World}{i : TypeInfo}{d : AV}{arr : Array Value}{a y b : List Value}(hi : P.info? t = some i)(hu : ZX P t = true)(harr : arr.toList = a ++ (y ++ b))(hy : Rel c d true y)
   (hag:tAgg P t=d.isAgg) (hsz:i.size=d.sz):∃v,(part t arr a.length).run P w= .ok v w∧Rel c d false [v]:=by
 have hagg:(isAgg t).run P w= .ok (tAgg P t) w:=(tAgg_spec hi).resolve_right (fun e=>by unfold ZX at hu;rw[e]at hu;simp at hu);have hl:=(Rel.len _ _ hy).1;cases hda:d.isAgg with
 | true=>
   refine⟨.agg y.toArray,?_,?_⟩
   ·have e : (arr.extract a.length (a.length + i.size)) = y.toArray := by
      apply Array.ext';rw[Array.toList_extract,harr,hsz,←hl];simp[List.extract]
    simp[part,hagg,hag,hda,ZU hi,e]
   ·cases d<;>simp[AV.isAgg]at hda;simp only[Rel]at hy ⊢;exact⟨_,rfl,hy⟩
 | false=>
   obtain⟨v,e,hv⟩:=Sa hy hda;subst e;refine⟨v,?_,hv⟩;have:arr[a.length]? =some v:=by
     rw[←Array.getElem?_toList,harr];simp
   simp[part,hagg,hag,hda,this]
def qField(P:Program)(t f:Nat):AV→Option (Prop×AV)
 | .agg fs=>match tFld P t f with
   | some (o,s)=>some (o=(AV.agg fs).offs f∧f<fs.length∧s=(nth fs f).sz∧ZC P t f=(nth fs f).isAgg∧ZB P t f=true,nth fs f)
   | none=>none
 | _=>none
theorem qs_field{P : Program}{ε : Operand → AV}{H : Heap}{t f : Nat}{x : Operand}{C : Prop}{r : AV}
   (h:qField P t f (ε x)=some (C,r)) (hC:C):QS P (.field t x f) ε H r:=
 .pure fun dst ty pos after guard c n w ρv hs hr=>by
   have hx:=hr x (by simp[Op.operands]);generalize ε x=a at h hx;unfold qField at h;split at h
   ·rename_i fs;split at h
    ·rename_i o s ht;simp only[Option.some.injEq,Prod.mk.injEq]at h;obtain⟨rfl,rfl⟩:=h;obtain⟨e1,e2,e3,e4,e5⟩:=hC;obtain⟨sfs,fd,i,hu,hfd,hi,ho,hsz⟩:=Jy ht;obtain⟨arr,ev,hrf⟩:=Rel.aggV hx;obtain⟨a1,y,b1,ed,hy,hla,_,_⟩:=RelF.nth hrf (List.getElem?_eq_getElem e2);have egd:nth fs f=fs[f]:=by simp[nth,List.getD,List.getElem?_eq_getElem e2]
     rw[egd]at e3 e4 ⊢;have hsome:ZX P fd.type=true:=by unfold ZB at e5;rw[hu]at e5;simpa [hfd]using e5
     have hag:tAgg P fd.type=fs[f].isAgg:=by unfold ZC at e4;rw[hu]at e4;simpa [hfd,hsome]using e4
     obtain⟨v,hv,hrel⟩:=run_part (P:=P) (w:=w) hi hsome ed hy hag (by rw[hsz,e3]);have hoff:fd.offset=a1.length:=by rw[ho,e1,hla];rfl
     exact⟨v,by simp[execOp,ev,Instr.field,Zc hu,hfd,asAgg,hoff,hv],hrel⟩
    ·simp at h
   ·simp at h
def Uy(P:Program)(t:TypeId):AV→AV→Option (Prop×AV)
 | .agg fs,.int _ n=>match tArr P t with
   | some (len,s,ag)=>some (0≤n∧n<len∧len=fs.length∧(∀x∈fs,x.sz=s)∧(∀x∈fs,x.isAgg=ag)∧tArrS P t=true,nth fs n.toNat)
   | none=>none
 | .str s,.int _ n=>some (XQ P t=true∧0≤n∧n<s.length,Zd (s.getD n.toNat 0))
 | _,_=>none
where tArrS (P:Program) (t:TypeId):Bool:=match P.underlying t with | some (.array _ e)=>ZX P e | _=>false
theorem qs_index{P : Program}{ε : Operand → AV}{H : Heap}{t : TypeId}{x ix : Operand}{C : Prop}{r : AV}
   (h:Uy P t (ε x) (ε ix)=some (C,r)) (hC:C):QS P (.index t x ix) ε H r:=
 .pure fun dst ty pos after guard c n w ρv hs hr=>by
   have hx:=hr x (by simp[Op.operands]);have hi:=hr ix (by simp[Op.operands]);generalize ε x=a at h hx;generalize ε ix=iv at h hi;unfold Uy at h;split at h
   ·rename_i fs kk k;split at h
    ·rename_i len s ag ht;simp only[Option.some.injEq,Prod.mk.injEq]at h;obtain⟨rfl,rfl⟩:=h;obtain⟨e1,e2,e3,e4,e5,e6⟩:=hC;unfold tArr at ht;split at ht
     ·rename_i n' el hu;cases hinf:P.info? el with
      | none=>rw[hinf]at ht;simp at ht
      | some i=>
        rw[hinf]at ht;simp only[Option.map_some,Option.some.injEq,Prod.mk.injEq]at ht;obtain⟨rfl,rfl,rfl⟩:=ht;have hsome:ZX P el=true:=by unfold Uy.tArrS at e6;rw[hu]at e6;simpa using e6
        obtain⟨arr,ev,hrf⟩:=Rel.aggV hx;simp only[Rel,List.cons.injEq,and_true]at hi;have hlt:k.toNat<fs.length:=om;obtain⟨a1,y,b1,ed,hy,hla,_,_⟩:=RelF.nth hrf (List.getElem?_eq_getElem hlt);have egd:nth fs k.toNat=fs[k.toNat]:=by simp[nth,List.getD,List.getElem?_eq_getElem hlt]
        have hm:=List.getElem_mem hlt;obtain⟨v,hv,hrel⟩:=run_part (P:=P) (w:=w) hinf hsome ed hy (e5 _ hm).symm (e4 _ hm).symm;have hoff:k.toNat*i.size=a1.length:=by
          rw[hla,Rp (fun y hy=>e4 y (List.mem_of_mem_take hy)),qk,Nat.min_eq_left om]
        exact⟨v,by simp[execOp,ev,hi,Instr.index,asIntOf,Zc hu,ZU hinf,e1,e2,hoff,hv],by rw[egd];exact hrel⟩
     ·simp at ht
    ·simp at h
   ·rename_i s kk k;simp only[Option.some.injEq,Prod.mk.injEq]at h;obtain⟨rfl,rfl⟩:=h;obtain⟨e1,e2,e3⟩:=hC;simp only[Rel,List.cons.injEq,and_true]at hx hi;have hlt:k.toNat<s.length:=om;refine⟨.int .u8 (s[k.toNat].toNat:Int),?_,?_⟩
    ·have : (⟨s.toArray⟩ : ByteArray)[k.toNat]? = some s[k.toNat] := by
       have hsz:k.toNat<(⟨s.toArray⟩:ByteArray).size:=by simpa [ByteArray.size]using hlt
       rw[getElem?_pos (⟨s.toArray⟩:ByteArray) k.toNat hsz];rfl
     simp[execOp,hx,hi,Instr.index,asIntOf,Zc (Y3 e1),e2,this]
    ·simp[Zd,Rel,List.getD,List.getElem?_eq_getElem hlt]
   ·simp at h
def qSlO(P:Program)(t:TypeId)(lo hi mx:Option Int)(k ver off len:Nat):Option AObj→Option (Prop×AV)
 | some (.arr ver' esz els)=>some (ver=ver'∧WI P t=some esz∧0≤lo.getD 0∧lo.getD 0≤hi.getD len∧hi.getD len≤(max len (els.length-off):Nat)∧mx=none,.osl k ver (off+(lo.getD 0).toNat) ((hi.getD len).toNat-(lo.getD 0).toNat))
 | _=>none
def Kb(P:Program)(H:Heap)(t:TypeId)(lo hi mx:Option Int):AV→Option (Prop×AV)
 | .sl esz xs=>some (WI P t=some esz∧0≤lo.getD 0∧lo.getD 0≤hi.getD xs.length∧hi.getD xs.length≤xs.length∧(∀m,mx=some m→hi.isSome=true∧hi.getD xs.length≤m∧m≤xs.length),.sl esz ((xs.take (hi.getD xs.length).toNat).drop (lo.getD 0).toNat))
 | .osl k ver off len=>qSlO P t lo hi mx k ver off len (H k)
 | .nilsl=>some ((WI P t).isSome=true∧lo.getD 0=0∧hi.getD 0=0∧(∀m,mx=some m→hi.isSome=true∧m=0),.nilsl)
 | .str s=>some (XQ P t=true∧0≤lo.getD 0∧lo.getD 0≤hi.getD s.length∧hi.getD s.length≤s.length∧mx=none,.str ((s.take (hi.getD s.length).toNat).drop (lo.getD 0).toNat))
 | _=>none
def optI:Option AV→Option (Option Int)
 | none=>some none
 | some (.int _ n)=>some (some n)
 | _=>none
theorem take_seg{α:Type}(xs:List α){a b:Nat}(h:a≤b):xs.take b=xs.take a++(xs.take b).drop a:=by
 conv=>lhs;rw[←List.take_append_drop a (xs.take b),List.take_take,Nat.min_eq_left h]
theorem VQ{P : Program}{w : World}(isS : Bool)(len cap : Nat)(lo hi mx : Option Value)(l h m : Option Int)
   (hlo:∀n,l=some n→∃k,lo=some (.int k n)) (hlo0:l=none→lo=none) (hhi:∀n,h=some n→∃k,hi=some (.int k n)) (hhi0:h=none→hi=none) (hmx:∀n,m=some n→∃k,mx=some (.int k n)) (hmx0:m=none→mx=none)
   (hlc:len≤cap) (c1:0≤l.getD 0) (c2:l.getD 0≤h.getD len) (c3:h.getD len≤cap) (c4:∀x,m=some x→h.isSome=true∧h.getD len≤x∧x≤len):
   ∃M:Nat,(Instr.sliceBounds isS len cap lo hi mx).run P w= .ok ((l.getD 0).toNat,(h.getD len).toNat,M) w∧(h.getD len).toNat≤M∧M≤cap∧(m=none→M=cap):=by
 cases l with
 | none=>
   rw[hlo0 rfl];cases h with
   | none=>
     rw[hhi0 rfl];cases m with
     | none=>rw[hmx0 rfl];exact⟨cap,by simp[Instr.sliceBounds],by simp at c3 ⊢;omega,Nat.le_refl _,fun _=>rfl⟩
     | some x=>have:=(c4 x rfl).1;simp at this
   | some y=>
     obtain⟨k2,rfl⟩:=hhi y rfl;simp only[Option.getD_some,Option.getD_none]at c1 c2 c3 c4 ⊢;cases m with
     | none=>
       rw[hmx0 rfl];exact⟨cap,by simp[Instr.sliceBounds,Instr.sliceBound,asIntOf,show 0≤y by omega,show y≤(cap:Int) by omega],by omega,Nat.le_refl _,fun _=>rfl⟩
     | some x=>
       obtain⟨k3,rfl⟩:=hmx x rfl;obtain⟨_,d1,d2⟩:=c4 x rfl;exact⟨x.toNat,by simp[Instr.sliceBounds,Instr.sliceBound,asIntOf,show 0≤y by omega,show 0≤x by omega,show x≤(cap:Int) by omega,show y≤max x 0 by omega],by omega,by omega,fun h=>by simp at h⟩
 | some z=>
   obtain⟨k1,rfl⟩:=hlo z rfl;cases h with
   | none=>
     rw[hhi0 rfl];simp only[Option.getD_some,Option.getD_none]at c1 c2 c3 c4 ⊢;cases m with
     | none=>
       rw[hmx0 rfl];exact⟨cap,by simp[Instr.sliceBounds,Instr.sliceBound,asIntOf,c1,c2],om,Nat.le_refl _,fun _=>rfl⟩
     | some x=>have:=(c4 x rfl).1;simp at this
   | some y=>
     obtain⟨k2,rfl⟩:=hhi y rfl;simp only[Option.getD_some]at c1 c2 c3 c4 ⊢;cases m with
     | none=>
       rw[hmx0 rfl];exact⟨cap,by simp[Instr.sliceBounds,Instr.sliceBound,asIntOf,c1,show 0≤y by omega,show y≤(cap:Int) by omega,show z≤max y 0 by omega],by omega,Nat.le_refl _,fun _=>rfl⟩
     | some x=>
       obtain⟨k3,rfl⟩:=hmx x rfl;obtain⟨_,d1,d2⟩:=c4 x rfl;exact⟨x.toNat,by simp[Instr.sliceBounds,Instr.sliceBound,asIntOf,c1,show 0≤y by omega,show 0≤x by omega,show x≤(cap:Int) by omega,show y≤max x 0 by omega,show z≤max y 0 by omega],by omega,by omega,fun h=>by simp at h⟩
theorem LU{c : Ctx}{ε : Operand → AV}{ρv : Operand → Value}{x : Option Operand}(hx : ∀ y, x = some y → Rel c (ε y) false [ρv y]){l : Option Int}(h : optI (x.map ε) = some l):
   (∀n,l=some n→∃k,x.map ρv=some (.int k n))∧(l=none→x.map ρv=none):=by
 cases x with
 | none=>simp[optI]at h;subst h;simp
 | some y=>
   have hy:=hx y rfl;simp only[Option.map_some,optI]at h;split at h
   ·rename_i heq;simp at heq
   ·rename_i k n heq;simp at heq;rw[heq]at hy;simp only[Rel,List.cons.injEq,and_true]at hy;simp at h;subst h;exact⟨fun m hm=>by simp at hm;subst hm;exact⟨k,by simp[hy]⟩,fun h=>by simp at h⟩
   ·simp at h
theorem qs_slice{P : Program}{ε : Operand → AV}{H : Heap}{t : TypeId}{x : Operand}{lo hi mx : Option Operand}{l h' m : Option Int}{C : Prop}{r : AV}
   (hl:optI (lo.map ε)=some l) (hh:optI (hi.map ε)=some h') (hm:optI (mx.map ε)=some m)
   (h:Kb P H t l h' m (ε x)=some (C,r)) (hC:C):QS P (.slice t x lo hi mx) ε H r:=
 .pure fun dst ty pos after guard c n w ρv hs hr=>by
   have hx:=hr x (by simp[Op.operands]);obtain⟨l1,l2⟩:=LU (c:=c) (ρv:=ρv) (x:=lo) (fun y hy=>hr y (by simp[Op.operands,hy])) hl;obtain⟨h1,h2⟩:=LU (c:=c) (ρv:=ρv) (x:=hi) (fun y hy=>hr y (by simp[Op.operands,hy])) hh;obtain⟨m1,m2⟩:=LU (c:=c) (ρv:=ρv) (x:=mx) (fun y hy=>hr y (by simp[Op.operands,hy])) hm;generalize ε x=a at h hx;unfold Kb at h;split at h
   ·rename_i esz xs;simp only[Option.some.injEq,Prod.mk.injEq]at h;obtain⟨rfl,rfl⟩:=h;obtain⟨c0,c1,c2,c3,c4⟩:=hC;obtain⟨el,i,hu,hin,hsz⟩:=VO c0;simp only[Rel,List.cons.injEq,and_true]at hx;obtain⟨a,cap,ev,hcap,hz,hxs⟩:=hx;obtain⟨M,hb,hM1,hM2,_⟩:=VQ (P:=P) (w:=w) true xs.length cap _ _ _ l h' m l1 l2 h1 h2 m1 m2 hcap c1 c2 om c4;refine⟨_,by simp[execOp,ev,Instr.sliceAt,Instr.slice,Zc hu,hb,ZU hin];rfl,?_⟩;simp only[Rel,hsz];have hlen:((xs.take (h'.getD xs.length).toNat).drop (l.getD 0).toNat).length=(h'.getD xs.length).toNat-(l.getD 0).toNat:=oz;refine⟨_,M-(l.getD 0).toNat,by rw[hlen],by rw[hlen];omega,fun y hy=>hz y (List.mem_of_mem_take (List.mem_of_mem_drop hy)),?_⟩;by_cases he:(xs.take (h'.getD xs.length).toNat).drop (l.getD 0).toNat=[]
    ·exact .inl he
    ·right;have hpos:0<((xs.take (h'.getD xs.length).toNat).drop (l.getD 0).toNat).length:=by
       rcases Nat.eq_zero_or_pos ((xs.take (h'.getD xs.length).toNat).drop (l.getD 0).toNat).length with h0 | h0
       ·exact absurd (List.eq_nil_of_length_eq_zero h0) he
       ·exact h0
     have hne:xs≠[]:=fun e=>by rw[e]at hpos;simp at hpos
     obtain⟨b,off,arr,ds,rfl,hb',hrf,ha⟩:=hxs.resolve_left hne;rw[hlen]at hpos;rw[if_neg om];have e1:xs=xs.take (l.getD 0).toNat++((xs.take (h'.getD xs.length).toNat).drop (l.getD 0).toNat++xs.drop (h'.getD xs.length).toNat):=by
       rw[←qf,←take_seg xs (show(l.getD 0).toNat≤(h'.getD xs.length).toNat by omega),List.take_append_drop]
     rw[e1]at hrf;obtain⟨d1,r1,ed,hr1,hr2⟩:=RelF.append.1 hrf;obtain⟨d2,d3,ed2,hr3,hr4⟩:=RelF.append.1 hr2;subst ed;subst ed2;have hl1:d1.length=(l.getD 0).toNat*esz:=by
       exact kat
     obtain⟨_,ha2⟩:=At.append.1 ha;obtain⟨ha3,_⟩:=At.append.1 ha2;refine⟨b,off+(l.getD 0).toNat*esz,arr,d2,by simp[Addr.add_plain],hb',hr3,?_⟩;rw[←hl1];exact ha3
   ·rename_i k ver off len;unfold qSlO at h;split at h
    ·rename_i ver' esz els hk;simp only[Option.some.injEq,Prod.mk.injEq]at h;obtain⟨rfl,rfl⟩:=h;obtain⟨cv,c0,c1,c2,c3,c4⟩:=hC;subst cv;obtain⟨el,i,hu,hin,hsz⟩:=VO c0;simp only[Rel,List.cons.injEq,and_true]at hx;obtain⟨lc,hlc,hmm⟩:=hx;have ho:=hs.own k _ hk;simp only[ZR]at ho;obtain⟨l',hl',hm'⟩:=ho;rw[hlc]at hl';cases hl';cases lc with
     | nil=>
       obtain⟨e1,e2,ev⟩:=hmm;subst e1;subst e2;have hels:els=[]:=hm';subst hels;subst c4;have c3:h'.getD ((0:Nat):Int)≤((0:Nat):Int):=by simpa using c3
       obtain⟨M,hb,hM1,hM2,_⟩:=VQ (P:=P) (w:=w) true 0 0 _ _ _ l h' none l1 l2 h1 h2 m1 m2 (Nat.le_refl _) c1 c2 c3 (fun x hx=>by cases hx);have el:(l.getD 0).toNat=0:=by simp at c2 c3;omega
       have eh:(h'.getD ((0:Nat):Int)).toNat=0:=by simp at c3 ⊢;omega
       have eM:M=0:=om;subst eM;rw[el,eh]at hb;refine⟨.slice none 0 0,by simp[execOp,ev,Instr.sliceAt,Instr.slice,Zc hu,hb,ZU hin],?_⟩;simp only[Rel];exact⟨_,hlc,om,om,osi⟩
     | blk b cap e=>
       obtain⟨cp,o',d1,d2,d3,ev⟩:=hmm;have ee:e=esz:=hm'.1;subst ee;subst c4;have hcl:=hm'.2.2.1;obtain⟨M,hb,hM1,hM2,hM3⟩:=VQ (P:=P) (w:=w) true len cp _ _ _ l h' none l1 l2 h1 h2 m1 m2 d1 c1 c2 om (fun x hx=>by cases hx);have hM3:=hM3 rfl;refine⟨_,by simp[execOp,ev,Instr.sliceAt,Instr.slice,Zc hu,hb,ZU hin,hsz,Addr.add_plain];rfl,?_⟩;simp only[Rel];refine⟨_,hlc,M-(l.getD 0).toNat,if M=(l.getD 0).toNat then o' else o'+(l.getD 0).toNat*e,om,om,?_,?_⟩
       ·by_cases hM:M=(l.getD 0).toNat
        ·left;omega
        ·right;rw[if_neg hM];rcases d3 with d3 | d3
         ·omega
         ·rw[d3,Nat.add_mul]
       ·split<;>rfl
    ·simp at h
   ·simp only[Option.some.injEq,Prod.mk.injEq]at h;obtain⟨rfl,rfl⟩:=h;obtain⟨c0,c1,c2,c3⟩:=hC;obtain⟨es,hes⟩:=Option.isSome_iff_exists.1 c0;obtain⟨el,i,hu,hin,hsz⟩:=VO hes;simp only[Rel,List.cons.injEq,and_true]at hx;obtain⟨M,hb,hM1,hM2,_⟩:=VQ (P:=P) (w:=w) true 0 0 _ _ _ l h' m l1 l2 h1 h2 m1 m2 (Nat.le_refl _) om oz oz (fun x hx=>by have:=c3 x hx;refine⟨this.1,?_,?_⟩<;>simp<;>omega);have el:(l.getD 0).toNat=0:=om;have eh:(h'.getD ((0:Nat):Int)).toNat=0:=oz;have eM:M=0:=om;subst eM;rw[el,eh]at hb;exact⟨.slice none 0 0,by simp[execOp,hx,Instr.sliceAt,Instr.slice,Zc hu,hb,ZU hin],by simp[Rel]⟩
   ·rename_i s;simp only[Option.some.injEq,Prod.mk.injEq]at h;obtain⟨rfl,rfl⟩:=h;obtain⟨c0,c1,c2,c3,c4⟩:=hC;subst c4;simp only[Rel,List.cons.injEq,and_true]at hx;have hu:=Y3 c0;obtain⟨M,hb,hM1,hM2,hM3⟩:=VQ (P:=P) (w:=w) false s.length s.length _ _ _ l h' none l1 l2 h1 h2 (fun n hn=>by simp at hn) (fun _=>rfl) (Nat.le_refl _) c1 c2 c3 (fun x hx=>by simp at hx);have hsize:(⟨s.toArray⟩:ByteArray).size=s.length:=by simp[ByteArray.size]
    have hmx:mx=none:=by have:=m2 rfl;simpa using this
    subst hmx;refine⟨.string ((⟨s.toArray⟩:ByteArray).extract (l.getD 0).toNat (h'.getD s.length).toNat),?_,?_⟩
    ·simp[execOp,hx,Instr.sliceAt,Instr.slice,Zc hu,hsize,hb]
    ·simp only[Rel,List.cons.injEq,and_true];rw[ByteArray.extract_mk,List.drop_take]
   ·simp at h
theorem RelT.append{c:Ctx}{a b:List AV}{vs:List Value}:RelT c (a++b) vs↔∃x y,vs=x++y∧RelT c a x∧RelT c b y:=by
 induction a generalizing vs with
 | nil=>
   simp only[List.nil_append,RelT];exact⟨fun h=>⟨[],vs,osi,rfl,h⟩,by rintro⟨_,_,rfl,rfl,h⟩;simpa using h⟩
 | cons x a ih=>
   simp only[List.cons_append,RelT,ih];constructor
   ·rintro⟨v,r,rfl,h1,x1,y1,rfl,h2,h3⟩;exact⟨v::x1,y1,osi,⟨v,x1,rfl,h1,h2⟩,h3⟩
   ·rintro⟨_,y1,rfl,⟨v,x1,rfl,h1,h2⟩,h3⟩;exact⟨v,x1++y1,osi,h1,x1,y1,rfl,h2,h3⟩
theorem RelT.of_map{c:Ctx}{ε:Operand→AV}{ρv:Operand→Value}:∀(l:List Operand),(∀x∈l,Rel c (ε x) false [ρv x])→RelT c (l.map ε) (l.map ρv)
 | [],_=>by simp[RelT]
 | x::l,h=>by
   simp only[List.map_cons,RelT];exact⟨_,_,rfl,h x osi,RelT.of_map l fun y hy=>h y (by simp[hy])⟩
def Qh:Nat→List Nat→Bool
 | _,[]=>true
 | k,i::l=>i==k&&Qh (k+1) l
def tEl(P:Program)(t:TypeId):Option (Nat×Nat):=
 match P.underlying t with
 | some (.slice e)=>match P.info? e with
   | some i=>match i.zero with
     | some v=>if v.cells.size=i.size∧0<i.size then some (i.size,i.bytes)else none
     | none=>none
   | none=>none
 | _=>none
theorem UO{P:Program}{t s b:Nat}(h:tEl P t=some (s,b)):∃e i v,P.underlying t=some (.slice e)∧P.info? e=some i∧i.zero=some v∧v.cells.size=i.size∧0<i.size∧i.size=s∧i.bytes=b:=by
 unfold tEl at h;split at h
 ·rename_i e hu;split at h
  ·rename_i i hi;split at h
   ·rename_i v hv;split at h
    ·rename_i hc;simp at h;exact⟨e,i,v,hu,hi,hv,hc.1,hc.2,h.1,h.2⟩
    ·simp at h
   ·simp at h
  ·simp at h
 ·simp at h
theorem foldl_set : ∀ (cs : List Value) (k : Nat) (pre mid post : List Value), mid.length = cs.length → pre.length = k →
   ((cs.zipIdx.foldl (fun(acc:Array Value) (x:Value×Nat)=>acc.setIfInBounds (k+x.2) x.1) (pre++(mid++post)).toArray)).toList=pre++(cs++post):=by
 intro cs
 suffices H : ∀ (cs : List Value) (k j : Nat) (pre mid post : List Value), mid.length = cs.length → pre.length = k + j →
     (((cs.zipIdx j).foldl (fun(acc:Array Value) (x:Value×Nat)=>acc.setIfInBounds (k+x.2) x.1) (pre++(mid++post)).toArray)).toList=pre++(cs++post)from
   fun k pre mid post h1 h2=>H cs k 0 pre mid post h1 (by simpa using h2)
 intro cs
 induction cs with
 | nil=>intro k j pre mid post h1 h2;have:mid=[]:=List.eq_nil_of_length_eq_zero (by simpa using h1);subst this;simp
 | cons c cs ih=>
   intro k j pre mid post h1 h2;cases mid with
   | nil=>simp at h1
   | cons m mid=>
     simp only[List.zipIdx_cons,List.foldl_cons];have e:(pre++(m::mid++post)).toArray.setIfInBounds (k+j) c=((pre++[c])++(mid++post)).toArray:=by
       apply Array.ext';simp only[Array.toList_setIfInBounds];rw[List.set_append_right _ _ om];simp[h2]
     rw[e,ih k (j+1) (pre++[c]) mid post (by simpa using h1) oz];simp
theorem Pt(size : Nat): ∀ (vs : List Value) (k : Nat) (pre rest : List Value), pre.length = k * size → rest.length = vs.length * size → (∀ v ∈ vs, v.cells.size = size) →
   ∃arr,Instr.fill (fun i=>some (i*size,size)) (pre++rest).toArray ((List.range' k vs.length).zip vs)=some arr∧arr.toList=pre++vs.flatMap (fun v=>v.cells.toList)
 | [],k,pre,rest,h1,h2,h3=>by
   have:rest=[]:=List.eq_nil_of_length_eq_zero (by simpa using h2);subst this;exact⟨_,rfl,osi⟩
 | v::vs,k,pre,rest,h1,h2,h3=>by
   have hv:=h3 v osi;have hr:rest=rest.take size++rest.drop size:=(List.take_append_drop _ _).symm;have hlen:size≤rest.length:=by rw[h2];simp[Nat.add_mul]
   have hfold:=foldl_set v.cells.toList (k*size) pre (rest.take size) (rest.drop size) (by simp[hv];omega) h1;rw[←hr]at hfold;obtain⟨arr,ha,hl⟩:=Pt size vs (k+1) (pre++v.cells.toList) (rest.drop size) (by simp[h1,hv,Nat.add_mul]) (by simp[h2,Nat.add_mul]) (fun u hu=>h3 u (by simp[hu]));refine⟨arr,?_,by rw[hl];simp⟩;rw[qi,List.range'_succ,List.zip_cons_cons];unfold Instr.fill;simp only[hv];rw[if_neg (by simp[h1];omega)];have earr:(v.cells.zipIdx.foldl (fun cs (x:Value×Nat)=>cs.setIfInBounds (k*size+x.2) x.1) (pre++rest).toArray)=((pre++v.cells.toList)++rest.drop size).toArray:=by
     apply Array.ext';rw[←Array.foldl_toList,Array.toList_zipIdx,hfold];simp
   simp only[earr];exact ha
theorem RU{c:Ctx}:∀(xs:List AV) (vs:List Value),RelT c xs vs→(∀x∈xs,x.memOK=true)→RelF c xs (vs.flatMap fun v=>v.cells.toList)∧∀(i:Nat) (x:AV) (v:Value),xs[i]? =some x→vs[i]? =some v→v.cells.size=x.sz
 | [],vs,h,_=>by simp only[RelT]at h;subst h;exact⟨by simp[RelF],fun i x v hx=>by simp at hx⟩
 | x::xs,vs,h,hm=>by
   simp only[RelT]at h;obtain⟨v,r,rfl,h1,h2⟩:=h;have hx:=RY h1 (hm x osi);obtain⟨i1,i2⟩:=RU xs r h2 (fun y hy=>hm y (by simp[hy]));refine⟨?_,fun i y u hy hu=> ?_⟩
   ·simp only[RelF,List.flatMap_cons];exact⟨_,_,rfl,hx,i1⟩
   ·cases i with
    | zero=>simp at hy hu;subst hy;subst hu;simpa using(Rel.len _ _ hx).1
    | succ i=>simp at hy hu;exact i2 i y u hy hu
def Ul(P:Program)(t:TypeId)(len:Nat)(idx:List Nat)(xs:List AV):Option (Prop×AV):=
 match tEl P t with
 | some (s,_)=>some (len=xs.length∧idx.length=xs.length∧Qh 0 idx=true∧0<len∧len*s≤2^24∧(∀x∈xs,x.sz=s∧x.memOK=true),.sl s xs)
 | none=>none
theorem JW:∀(l:List Nat) (k:Nat),Qh k l=true→l=List.range' k l.length
 | [],k,_=>rfl
 | i::l,k,h=>by
   simp only[Qh,Bool.and_eq_true,beq_iff_eq]at h;rw[qi,List.range'_succ,←JW l (k+1) h.2,h.1]
theorem qs_buildSlice{P : Program}{ε : Operand → AV}{H : Heap}{t : TypeId}{len : Nat}{ps : Array (Nat × Operand)}{C : Prop}{r : AV}
   (h:Ul P t len (ps.toList.map (·.1)) (ps.toList.map fun p=>ε p.2)=some (C,r)) (hC:C):QS P (.buildSlice t len ps) ε H r:=fun dst ty pos after guard c n w ρv hs hr=>by
 unfold Ul at h;split at h
 ·rename_i s bb ht;simp only[Option.some.injEq,Prod.mk.injEq]at h;obtain⟨rfl,rfl⟩:=h;obtain⟨e1,e2,e3,e4,e5,e6⟩:=hC;obtain⟨e,i,z,hu,hi,hz,hzs,hpos,hsz,_⟩:=UO ht;obtain⟨ps⟩:=ps;simp only at e1 e2 e3 e6;have hT:RelT c (ps.map fun p=>ε p.2) (ps.map fun p=>ρv p.2):=by
    exact kaL
  obtain⟨hF,hsizes⟩:=RU _ _ hT (fun x hx=>(e6 x hx).2);have hvs:∀v∈(ps.map fun p=>ρv p.2),v.cells.size=s:=fun v hv=>by
    exact kaI
  have hl:len=ps.length:=by simpa using e1
  obtain⟨arr,ha,hal⟩:=Pt s (ps.map fun p=>ρv p.2) 0 [] ((List.range (len*s)).map (z.cells[· %z.cells.size]!)) osi (by simp[hl]) hvs;have hzip:(List.range' 0 (ps.map fun p=>ρv p.2).length).zip (ps.map fun p=>ρv p.2)=ps.map fun p=>(p.1,ρv p.2):=by
    exact kbU
  rw[hzip]at ha;refine⟨.slice (some ⟨w.heap.size,0,none⟩) len len,_,w.alloc (.cells arr e),?_,Sk hs arr e,?_⟩
  ·have hne:¬len*i.size=0:=by rw[hsz];have:=Nat.mul_pos e4 (hsz▸hpos);omega
   have hsm:¬len*i.size>2^24:=by rw[hsz];omega
   have hfill:Instr.fill (fun j=>some (j*i.size,i.size)) ((Array.range (len*i.size)).map (z.cells[· %z.cells.size]!)) ((ps.map fun p=>(p.1,ρv p.2)).toArray).toList=some arr:=by
     exact kbg
   have hrun:(Instr.buildSlice t len (ps.map fun p=>(p.1,ρv p.2)).toArray).run P w= .ok (.slice (some ⟨w.heap.size,0,none⟩) len len) (w.alloc (.cells arr e)):=by
     exact ka3
   simp[execOp,hrun]
  ·simp only[Rel];refine⟨_,len,by rw[←e1],by rw[←e1];exact Nat.le_refl _,fun x hx=>(e6 x hx).1,.inr ⟨w.heap.size,0,arr,_,rfl,by simp[Ctx.addRo],RelF.mono (RQ (hs.ro_size (Nat.le_refl _))) _ _ hF,At.self (by simpa using hal)⟩⟩
 ·simp at h
def LP(f:Fn)(a b:List AV):Option (Prop×AV):=some (True,.fn f a b)
theorem qs_makeFunc{P:Program}{ε:Operand→AV}{H:Heap}{f:Fn}{a b:Array Operand}:QS P (.makeFunc f a b) ε H (.fn f (a.toList.map ε) (b.toList.map ε)):=
 .pure fun dst ty pos after guard c n w ρv hs hr=>by
   refine⟨.func f (a.map ρv) (b.map ρv),by simp[execOp,Instr.makeFunc],?_⟩;simp only[Rel];refine⟨_,_,rfl,?_,?_⟩
   ·have:=RelT.of_map (c:=c) (ε:=ε) (ρv:=ρv) a.toList (fun x hx=>hr x (by simp at hx;simp[Op.operands,hx]));simpa using this
   ·have:=RelT.of_map (c:=c) (ε:=ε) (ρv:=ρv) b.toList (fun x hx=>hr x (by simp at hx;simp[Op.operands,hx]));simpa using this
def Vm:AV→List (Nat×AV)→AV
 | d,[]=>d
 | d,(i,v)::l=>Vm (d.setf i v) l
def ZW(P:Program)(t:TypeId)(z:AV):Prop:=z.memOK=true∧∃i v,P.info? t=some i∧i.zero=some v∧∀c,Rel c z false [v]
def tPlc(P:Program)(t i:Nat):Option (Nat×Nat):=
 match P.underlying t with
 | some (.array _ e)=>(P.info? e).map fun inf=>(i*inf.size,inf.size)
 | _=>tFld P t i
def Kl(P:Program)(t:TypeId)(d:AV):List (Nat×AV)→Prop
 | []=>True
 | (i,v)::l=>(∃s,tPlc P t i=some (d.offs i,s)∧s=v.sz)∧i<d.nf∧(d.fld i).sz=v.sz∧v.memOK=true∧Kl P t d l
def XB(P:Program)(t:TypeId):Bool:=
 match P.underlying t with
 | some (.struct fs)=>fs.all fun f=>(P.info? f.type).isSome
 | some (.array _ e)=>(P.info? e).isSome
 | _=>false
def qBuild(P:Program)(z:TypeId→AV)(t:TypeId)(ps:List (Nat×AV)):Option (Prop×AV):=
 some (XB P t=true∧ZW P t (z t)∧(z t).isAgg=true∧Kl P t (z t) ps,Vm (z t) ps)
theorem MG{P:Program}{t:TypeId}{d:AV}{i:Nat}{v:AV}(hi:i<d.nf)(hs:(d.fld i).sz=v.sz):∀l,Kl P t d l→Kl P t (d.setf i v) l
 | [],_=>trivial
 | (j,u)::l,⟨⟨s,h1,h2⟩,h3,h4,h5,h6⟩=>by
   cases d<;>simp only[AV.nf,Nat.not_lt_zero]at hi;rename_i fs;have hoffs:∀j,(AV.agg (fs.set i v)).offs j=(AV.agg fs).offs j:=fun j=>by
     simp only[AV.offs];rw[List.take_set];have key:∀(l:List AV) (i:Nat),(∀x,l[i]? =some x→x.sz=v.sz)→AV.szs (l.set i v)=AV.szs l:=by
       intro l
       induction l with
       | nil=>intro i _;simp
       | cons y l ih=>
         intro i h;cases i with
         | zero=>simp[AV.szs,h y osi]
         | succ i=>simp only[List.set_cons_succ,AV.szs];rw[ih i (fun x hx=>h x (by simpa using hx))]
     refine key _ i fun x hx=> ?_;rw[List.getElem?_take]at hx;split at hx
     ·have:(AV.agg fs).fld i=x:=by simp[AV.fld,List.getD,hx]
      rw[←this];exact hs
     ·simp at hx
   refine⟨⟨s,by rw[AV.setf,hoffs];exact h1,h2⟩,by simpa [AV.setf,AV.nf]using h3,?_,h5,MG (by simpa [AV.nf]using hi) hs l h6⟩;simp only[AV.setf,AV.fld,List.getD]at*;by_cases e:i=j
   ·subst e;rw[List.getElem?_set_self (by simpa using hi)];simp only[Option.getD_some];rw[←hs];simpa [List.getD]using h4
   ·rw[List.getElem?_set_ne e];exact h4
theorem Jb{P : Program}{c : Ctx}{t : TypeId}(place : Nat → Option (Nat × Nat))(hpl : ∀ i o s, tPlc P t i = some (o, s) → place i = some (o, s)):
   ∀(ps:List (Nat×AV)) (vs:List Value) (d:AV) (ds:List Value),Kl P t d ps→RelT c (ps.map (·.2)) vs→Rel c d true ds→
     ∃arr,Instr.fill place ds.toArray ((ps.map (·.1)).zip vs)=some arr∧Rel c (Vm d ps) true arr.toList
 | [],vs,d,ds,_,hv,hd=>by
   simp only[List.map_nil,RelT]at hv;subst hv;exact⟨_,rfl,hd⟩
 | (i,v)::ps,vs,d,ds,hf,hv,hd=>by
   obtain⟨⟨s,h1,h2⟩,h3,h4,h5,h6⟩:=hf;simp only[List.map_cons,RelT]at hv;obtain⟨u,r,rfl,hu,hr⟩:=hv;have hum:=RY hu h5;have hus:=(Rel.len _ _ hum).1;cases d<;>simp only[AV.nf,Nat.not_lt_zero]at h3;rename_i fs;simp only[Rel]at hd;obtain⟨a,y,b,ed,hy,hla,hra,hrb⟩:=RelF.nth hd (List.getElem?_eq_getElem h3);have efld:(AV.agg fs).fld i=fs[i]:=by simp[AV.fld,List.getD,List.getElem?_eq_getElem h3]
   have hyl:y.length=u.cells.toList.length:=by rw[(Rel.len _ _ hy).1,hus,←h4,efld]
   have hoff:(AV.agg fs).offs i=a.length:=by rw[hla];rfl
   have hset:Rel c ((AV.agg fs).setf i v) true (a++(u.cells.toList++b)):=by
     simp only[AV.setf,Rel];have e:fs.set i v=fs.take i++v::fs.drop (i+1):=by rw[List.set_eq_take_append_cons_drop,if_pos h3]
     rw[e];refine RelF.append.2 ⟨a,u.cells.toList++b,rfl,hra,?_⟩;simp only[RelF];exact⟨_,_,rfl,hum,hrb⟩
   obtain⟨arr,ha,hr'⟩:=Jb place hpl ps r _ _ (MG (by simpa [AV.nf]using h3) h4 ps h6) hr hset;refine⟨arr,?_,hr'⟩;simp only[List.map_cons,List.zip_cons_cons];unfold Instr.fill;rw[hpl i _ _ h1];simp only;have hsz:u.cells.size=s:=by rw[h2,←hus];simp
   have hdl:ds.length=a.length+(y.length+b.length):=by rw[ed];simp
   have hyl':y.length=u.cells.size:=by rw[hyl];simp
   rw[if_neg (by simp only[hsz,hoff,List.size_toArray,hdl,ne_eq,not_true_eq_false,decide_false,Bool.false_or,decide_eq_true_eq];rw[hyl',hsz];omega)];have hfold:=foldl_set u.cells.toList a.length a y b hyl rfl;have earr:(u.cells.zipIdx.foldl (fun cs (x:Value×Nat)=>cs.setIfInBounds ((AV.agg fs).offs i+x.2) x.1) ds.toArray)=(a++(u.cells.toList++b)).toArray:=by
     apply Array.ext';rw[←Array.foldl_toList,Array.toList_zipIdx,hoff,ed,hfold]
   simp only[earr];exact ha
theorem run_mapM{P:Program}{α β:Type}(g:α→Sem β)(h:α→β)(w:World):∀(l:List α),(∀a∈l,(g a).run P w= .ok (h a) w)→(l.mapM g).run P w= .ok (l.map h) w
 | [],_=>osi
 | a::l,hg=>by
   have:=run_mapM g h w l (fun b hb=>hg b (by simp[hb]));simp only[List.mapM_cons,Sem.run_bind,hg a osi,Result.andThen_ok,this,Sem.run_pure,List.map_cons]
theorem qs_build{P : Program}{ε : Operand → AV}{H : Heap}{z : TypeId → AV}{t : TypeId}{ps : Array (Nat × Operand)}{C : Prop}{r : AV}
   (h:qBuild P z t (ps.toList.map fun p=>(p.1,ε p.2))=some (C,r)) (hC:C):QS P (.build t ps) ε H r:=
 .pure fun dst ty pos after guard c n w ρv hs hr=>by
   simp only[qBuild,Option.some.injEq,Prod.mk.injEq]at h;obtain⟨rfl,rfl⟩:=h;obtain⟨h1,⟨hm,i,zv,hi,hz,hzr⟩,hag,hf⟩:=hC;obtain⟨ps⟩:=ps;simp only at hf ⊢;have hzc:=RY (hzr c) hm;have hT:RelT c ((ps.map fun p=>(p.1,ε p.2)).map (·.2)) (ps.map fun p=>ρv p.2):=by
     exact kaL
   have hzip:(((ps.map fun p=>(p.1,ε p.2)).map (·.1)).zip (ps.map fun p=>ρv p.2))=(ps.map fun p=>(p.1,ρv p.2)):=by
     rw[List.map_map,Function.comp_def,List.zip_map']
   have fin:∀arr:Array Value,Rel c (Vm (z t) (ps.map fun p=>(p.1,ε p.2))) true arr.toList→Rel c (Vm (z t) (ps.map fun p=>(p.1,ε p.2))) false [.agg arr]:=fun arr hrel=>by
     have hagg:(Vm (z t) (ps.map fun p=>(p.1,ε p.2))).isAgg=true:=by
       have:∀(l:List (Nat×AV)) (d:AV),d.isAgg=true→(Vm d l).isAgg=true:=by
         intro l
         induction l with
         | nil=>intro d h;exact h
         | cons x l ih=>intro d h;obtain⟨j,v⟩:=x;exact ih _ (by cases d<;>simp[AV.isAgg,AV.setf]at h ⊢)
       exact this _ _ hag
     generalize Vm (z t) (ps.map fun p=>(p.1,ε p.2))=res at hrel hagg;cases res<;>simp[AV.isAgg]at hagg;simp only[Rel]at hrel ⊢;exact⟨arr,rfl,hrel⟩
   unfold XB at h1;split at h1
   ·rename_i fs hu;have hplaces:(fs.mapM fun f=>(do pure (f.offset,←sizeOf f.type):Sem (Nat×Nat))).run P w= .ok (fs.map fun f=>(f.offset,((P.info? f.type).map (·.size)).getD 0)) w:=by
      have key:∀(l:List Field),(∀f∈l,(P.info? f.type).isSome=true)→(l.mapM fun f=>(do pure (f.offset,←sizeOf f.type):Sem (Nat×Nat))).run P w= .ok (l.map fun f=>(f.offset,((P.info? f.type).map (·.size)).getD 0)) w:=fun l hl=>
        run_mapM _ _ _ _ fun f hf=>by
          obtain⟨inf,hinf⟩:=Option.isSome_iff_exists.1 (hl f hf);simp[ZU hinf,hinf]
      rw[Array.mapM_eq_mapM_toList];have:=key fs.toList (fun f hf=>by have:=Array.all_eq_true_iff_forall_mem.1 h1 f (by simpa using hf);exact this);simp only[Sem.run_map,this,Result.andThen_ok];congr 1;apply Array.ext';simp
    obtain⟨arr,ha,hrel⟩:=Jb (P:=P) (c:=c) (t:=t) (fun j=>(fs.map fun f=>(f.offset,((P.info? f.type).map (·.size)).getD 0))[j]?) (fun j o s hj=>by
      have hj:tFld P t j=some (o,s):=by unfold tPlc at hj;rw[hu]at hj;exact hj
      obtain⟨fs',d,inf,hu',hd,hinf,ho,hs⟩:=Jy hj;rw[hu]at hu';cases hu';simp[hd,hinf,ho,hs]) _ _ _ _ hf hT hzc
    refine⟨.agg arr,?_,fin arr hrel⟩;rw[hzip]at ha;have ha':Instr.fill (fun j=>(fs.map fun f=>(f.offset,((P.info? f.type).map (·.size)).getD 0))[j]?) zv.cells (ps.map fun p=>(p.1,ρv p.2))=some arr:=by
      have:zv.cells.toList.toArray=zv.cells:=osi;rw[this]at ha;exact ha
    have hrun:(Instr.build t (ps.map fun p=>(p.1,ρv p.2)).toArray).run P w= .ok (.agg arr) w:=by
      simp only[Instr.build,Sem.run_bind,zeroValue,typeInfo,run_program,hi,hz,Sem.run_pure,Result.andThen_ok,Zc hu,hplaces,ha']
    simp[execOp,hrun]
   ·rename_i len e hu;obtain⟨inf,hinf⟩:=Option.isSome_iff_exists.1 h1;obtain⟨arr,ha,hrel⟩:=Jb (P:=P) (c:=c) (t:=t) (fun j=>some (j*inf.size,inf.size)) (fun j o s hj=>by
      unfold tPlc at hj;rw[hu]at hj;simp only[hinf,Option.map_some,Option.some.injEq,Prod.mk.injEq]at hj;exact congrArg some (Prod.ext hj.1 hj.2)) _ _ _ _ hf hT hzc
    refine⟨.agg arr,?_,fin arr hrel⟩;rw[hzip]at ha;have ha':Instr.fill (fun j=>some (j*inf.size,inf.size)) zv.cells (ps.map fun p=>(p.1,ρv p.2))=some arr:=by
      have:zv.cells.toList.toArray=zv.cells:=osi;rw[this]at ha;exact ha
    have hrun:(Instr.build t (ps.map fun p=>(p.1,ρv p.2)).toArray).run P w= .ok (.agg arr) w:=by
      simp only[Instr.build,Sem.run_bind,zeroValue,typeInfo,run_program,hi,hz,Sem.run_pure,Result.andThen_ok,Zc hu,ZU hinf,ha']
    simp[execOp,hrun]
   ·simp at h1
def tMap(P:Program)(t:TypeId):Option (TypeDesc×TypeId):=
 match P.underlying t with
 | some (.map kt et)=>(P.underlying kt).map fun d=>(d,et)
 | _=>none
theorem LB{P:Program}{t:TypeId}{d:TypeDesc}{et:TypeId}(h:tMap P t=some (d,et)):∃kt,P.underlying t=some (.map kt et)∧P.underlying kt=some d:=by
 unfold tMap at h;split at h
 ·rename_i kt et' hu;cases hk:P.underlying kt with
  | none=>rw[hk]at h;simp at h
  | some d'=>rw[hk]at h;simp at h;obtain⟨rfl,rfl⟩:=h;exact⟨kt,hu,hk⟩
 ·simp at h
def AV.isKey:TypeDesc→AV→Bool
 | .int k,.int k' _=>decide (k'=k)
 | .string,.str _=>true
 | _,_=>false
def Qm:AV→AV→Bool
 | .int _ a,.int _ b=>a==b
 | .str a,.str b=>a==b
 | _,_=>false
def MH:List (AV×AV)→AV→Option AV
 | [],_=>none
 | (a,v)::es,k=>bif Qm k a then some v else MH es k
theorem VI{c:Ctx}{d:TypeDesc}{k:AV}{v:Value}(hk:k.isKey d=true)(h:Rel c k false [v]):MapKept.IsKey d v:=by
 unfold AV.isKey at hk;split at hk
 ·simp only[Rel,List.cons.injEq,and_true]at h;subst h;simpa [MapKept.IsKey]using hk
 ·simp only[Rel,List.cons.injEq,and_true]at h;subst h;simp[MapKept.IsKey]
 ·simp at hk
theorem MB{c:Ctx}{d:TypeDesc}{k k':AV}{v v':Value}(hk:k.isKey d=true)(hk':k'.isKey d=true)(h:Rel c k false [v])(h':Rel c k' false [v']):Instr.sameNow d v v'=some (Qm k k'):=by
 cases d<;>cases k<;>simp only[AV.isKey,Bool.false_eq_true,decide_eq_true_eq]at hk
 all_goals cases k'<;>simp only[AV.isKey,Bool.false_eq_true,decide_eq_true_eq]at hk'
 ·rename_i d k1 a k2 b;simp only[Rel,List.cons.injEq,and_true]at h h';subst hk;subst hk';subst h;subst h';simp[Instr.sameNow,Qm]
 ·rename_i a b;simp only[Rel,List.cons.injEq,and_true]at h h';subst h;subst h';simp only[Instr.sameNow,Qm,Option.some.injEq];by_cases e:a=b
  ·subst e;have:=(MapKept.bytes_beq ⟨a.toArray⟩ ⟨a.toArray⟩).2 rfl;simp[this]
  ·have : ((⟨a.toArray⟩ : ByteArray) == ⟨b.toArray⟩) = false := by
     cases hh:((⟨a.toArray⟩:ByteArray)==⟨b.toArray⟩)with
     | false=>rfl
     | true=>
       have:=(MapKept.bytes_beq _ _).1 hh;simp at this;exact absurd this e
   simp[this,e]
theorem findK_rel{c : Ctx}{d : TypeDesc}{k : AV}{v : Value}(hk : k.isKey d = true)(h : Rel c k false [v]): ∀ (es : List (AV × AV)) (l : List MapEntry) (i : Nat), RelM c es l → (∀ e ∈ es, e.1.isKey d = true) →
   (MH es k=none∧Instr.findNow d v l i=some none)∨∃x j e,MH es k=some x∧Instr.findNow d v l i=some (some (i+j,e.val))∧Rel c x false [e.val]∧l[j]? =some e∧e.key=v
 | [],l,i,hr,_=>by
   simp only[RelM]at hr;subst hr;exact .inl ⟨rfl,rfl⟩
 | (a,x)::es,l,i,hr,hks=>by
   simp only[RelM]at hr;obtain⟨e,r,rfl,h1,h2,h3⟩:=hr;have hka:=hks (a,x) osi;have hs:=MB hk hka h h1;cases hb:Qm k a with
   | true=>
     refine .inr ⟨x,0,e,by simp[MH,hb],by simp[Instr.findNow,hs,hb],h2,rfl,?_⟩;obtain⟨r',hr',hiff⟩:=MapKept.sameNow_of_keys (VI hk h) (VI hka h1);rw[hs,hb]at hr';cases hr';exact(hiff.1 rfl).symm
   | false=>
     rcases findK_rel hk h es r (i+1) h3 (fun e he=>hks e (by simp[he]))with⟨h4,h5⟩ | ⟨y,j,e',h4,h5,h6,h7,h8⟩
     ·exact .inl ⟨by simp[MH,hb,h4],by simp[Instr.findNow,hs,hb,h5]⟩
     ·exact .inr ⟨y,j+1,e',by simp[MH,hb,h4],by simp[Instr.findNow,hs,hb,h5];omega,h6,by simpa using h7,h8⟩
def lookR:Bool→Option AV→AV→AV
 | true,some v,_=> .tup [v,.bool true]
 | true,none,z=> .tup [z,.bool false]
 | false,some v,_=>v
 | false,none,z=>z
def LQ(P:Program)(z:TypeId→AV)(key:AV)(ok:Bool)(es:List (AV×AV)):Option (TypeDesc×TypeId)→Option (Prop×AV)
 | some (d,et)=>some (key.isKey d=true∧(∀e∈es,e.1.isKey d=true)∧ZW P et (z et),lookR ok (MH es key) (z et))
 | none=>none
def qLookO(P:Program)(z:TypeId→AV)(t:TypeId)(key:AV)(ok:Bool):Option AObj→Option (Prop×AV)
 | some (.map es)=>LQ P z key ok es (tMap P t)
 | _=>none
def KA(P:Program)(z:TypeId→AV)(H:Heap)(t:TypeId)(key:AV)(ok:Bool):AV→Option (Prop×AV)
 | .omap k=>qLookO P z t key ok (H k)
 | .nilm=>LQ P z key ok [] (tMap P t)
 | _=>none
theorem run_lookup{P : Program}{z : TypeId → AV}{c : Ctx}{w : World}{t kt et : TypeId}{d : TypeDesc}{key : AV}{kv m : Value}{ok : Bool}{es : List (AV × AV)}{l : Array MapEntry}
   (hu:P.underlying t=some (.map kt et)) (hd:P.underlying kt=some d) (hk:key.isKey d=true) (hks:∀e∈es,e.1.isKey d=true) (hz:ZW P et (z et)) (hkr:Rel c key false [kv]) (hr:RelM c es l.toList)
   (hm:(m= .map none∧l= #[])∨∃b clock,m= .map (some b)∧w.heap[b]? =some (.map l clock)):
   ∃v,(Instr.lookup t m kv ok).run P w= .ok v w∧Rel c (lookR ok (MH es key) (z et)) false [v]:=by
 obtain⟨_,i,zv,hi,hzv,hzr⟩:=hz;have hkey:=VI hk hkr;have hck:=fun b=>MapKept.run_checkKey (P:=P) (w:=w) hd hkey b 9999;have hzero:(zeroValue et).run P w= .ok zv w:=by simp[zeroValue,typeInfo,hi,hzv]
 rcases findK_rel hk hkr es l.toList 0 hr hks with⟨h1,h2⟩ | ⟨x,j,e,h1,h2,h3,_,_⟩
 ·refine⟨if ok=true then .tuple #[zv,.bool false]else zv,?_,?_⟩
  ·rcases hm with⟨rfl,rfl⟩ | ⟨b,clock,rfl,hb⟩
   ·simp[Instr.lookup,Zc hu,hck,MapKept.run_findKey hd h2,hzero,Result.andThen]
   ·simp[Instr.lookup,Zc hu,hck,MapKept.run_findKey hd h2,hzero,MapKept.run_getObj_map hb,Result.andThen]
  ·rw[h1];cases ok
   ·simpa [lookR]using hzr c
   ·simp only[lookR,Rel];exact⟨#[zv,.bool false],osi,by simp only[RelT];exact⟨zv,[.bool false],rfl,hzr c,_,_,rfl,by simp[Rel],rfl⟩⟩
 ·refine⟨if ok=true then .tuple #[e.val,.bool true]else e.val,?_,?_⟩
  ·rcases hm with⟨rfl,rfl⟩ | ⟨b,clock,rfl,hb⟩
   ·simp[Instr.lookup,Zc hu,hck,MapKept.run_findKey hd h2,hzero,Result.andThen]
   ·simp[Instr.lookup,Zc hu,hck,MapKept.run_findKey hd h2,hzero,MapKept.run_getObj_map hb,Result.andThen]
  ·rw[h1];cases ok
   ·simpa [lookR]using h3
   ·simp only[lookR,Rel];exact⟨#[e.val,.bool true],osi,by simp only[RelT];exact⟨e.val,[.bool true],rfl,h3,_,_,rfl,by simp[Rel],rfl⟩⟩
theorem qs_lookup{P : Program}{z : TypeId → AV}{ε : Operand → AV}{H : Heap}{t : TypeId}{x i : Operand}{ok : Bool}{C : Prop}{r : AV}
   (h:KA P z H t (ε i) ok (ε x)=some (C,r)) (hC:C):QS P (.lookup t x i ok) ε H r:=
 QS.pure fun dst ty pos after guard c n w ρv hs hr=>by
   have hx:=hr x (by simp[Op.operands]);have hi:=hr i (by simp[Op.operands])
   have main : ∀ es l, LQ P z (ε i) ok es (tMap P t) = some (C, r) → RelM c es l.toList → ((ρv x = .map none ∧ l = #[]) ∨ ∃ b clock, ρv x = .map (some b) ∧ w.heap[b]? = some (.map l clock)) →
       ∃v,(execOp ρv ⟨dst,.lookup t x i ok,ty,pos,after,guard⟩).run P w= .ok (.value v) w∧Rel c r false [v]:=fun es l hq hrm hm=>by
     cases ht:tMap P t with
     | none=>rw[ht]at hq;simp[LQ]at hq
     | some de=>
       obtain⟨d,et⟩:=de;rw[ht]at hq;simp only[LQ,Option.some.injEq,Prod.mk.injEq]at hq;obtain⟨h1,rfl⟩:=hq;rw[←h1]at hC;obtain⟨kt,hu,hd⟩:=LB ht;obtain⟨v,hv,hrel⟩:=run_lookup (z:=z) (ok:=ok) hu hd hC.1 hC.2.1 hC.2.2 hi hrm hm;exact⟨v,by simp[execOp,hv],hrel⟩
   generalize hxa:ε x=xa at h hx;cases xa<;>simp only[KA]at h<;>try (simp at h;done)
   ·simp only[Rel,List.cons.injEq,and_true]at hx;exact main [] #[] h (by simp[RelM]) (.inl ⟨hx,rfl⟩)
   ·rename_i k;unfold qLookO at h;split at h
    ·rename_i es hk;simp only[Rel,List.cons.injEq,and_true]at hx;obtain⟨b,cap,esz,hl,ev⟩:=hx;have ho:=hs.own k _ hk;simp only[ZR]at ho;obtain⟨b',cap',e',entries,clock,hl',hb,hrm⟩:=ho;rw[hl]at hl';cases hl';exact main es entries h hrm (.inr ⟨b,clock,ev,hb⟩)
    ·simp at h
def qConvO(P:Program)(s d:TypeId)(ver off len:Nat):Option AObj→Option (Prop×AV)
 | some (.arr ver' e els)=>some (ver=ver'∧e=1∧off+len≤els.length∧Wo P s=true∧XQ P d=true∧(∀x∈(els.drop off).take len,isByte x),.str (((els.drop off).take len).map byteOf'))
 | _=>none
def qConvS(P:Program)(s d:TypeId)(b:List UInt8):Bool→Option (Prop×AV)
 | true=>XD P s d (.str b)
 | false=>some (XQ P s=true∧Wo P d=true,.sl 1 (b.map fun x=> .int .u8 x.toNat))
theorem QY{c:Ctx}:∀(b:List UInt8),RelF c (b.map fun x=>AV.int .u8 x.toNat) (b.map fun x=>Value.int .u8 x.toNat)
 | []=>by simp[RelF]
 | x::b=>by
   simp only[List.map_cons,RelF];exact⟨[.int .u8 x.toNat],_,rfl,by simp[Rel],QY b⟩
theorem qs_convS{P : Program}{ε : Operand → AV}{H : Heap}{s d : TypeId}{x : Operand}{b : List UInt8}(hx0 : ε x = .str b)(h1 : XQ P s = true)(h2 : Wo P d = true):
   QS P (.convert s d x) ε H (.sl 1 (b.map fun x=> .int .u8 x.toNat)):=fun dst ty pos after guard c n w ρv hs hr=>by
 have hx:=hr x (by simp[Op.operands]);rw[hx0]at hx;simp only[Rel,List.cons.injEq,and_true]at hx;obtain⟨el,hu,he⟩:=VN h2;have hrun:=run_bytes_of_string (P:=P) w s d el ⟨b.toArray⟩ (Y3 h1) hu he;have hsz:(⟨b.toArray⟩:ByteArray).size=b.length:=by simp[ByteArray.size]
 have hd:=hs.sameHeap (w':=w.drew) rfl;have hst:=Sc hd (bytesRow ⟨b.toArray⟩ (grownCap w (⟨b.toArray⟩:ByteArray).size 0 el)) el ((bytesRow ⟨b.toArray⟩ (grownCap w (⟨b.toArray⟩:ByteArray).size 0 el)).size,(bytesRow ⟨b.toArray⟩ (grownCap w (⟨b.toArray⟩:ByteArray).size 0 el)).size+1);have hcap:b.length≤grownCap w (⟨b.toArray⟩:ByteArray).size 0 el:=by rw[←hsz];exact grownCap_ge w _ _ _
 refine⟨.slice (some ⟨w.heap.size,0,none⟩) (⟨b.toArray⟩:ByteArray).size (grownCap w (⟨b.toArray⟩:ByteArray).size 0 el),_,_,by simp[execOp,hx,hrun],(Step.drew hs).trans hst,?_⟩;simp only[Rel,qb];refine⟨_,_,by rw[hsz],hcap,by simp[AV.sz],.inr ⟨_,0,_,_,rfl,by simp[Ctx.addRo];rfl,QY b,?_⟩⟩;rw[At.zero];exact⟨List.replicate (grownCap w (⟨b.toArray⟩:ByteArray).size 0 el-(⟨b.toArray⟩:ByteArray).size) (.int .u8 0),by simp[bytesRow]⟩
def Yo(P:Program)(H:Heap)(s d:TypeId):AV→Option (Prop×AV)
 | .osl k ver off len=>qConvO P s d ver off len (H k)
 | .int k n=>XD P s d (.int k n)
 | .sl e xs=>XD P s d (.sl e xs)
 | .nilsl=>XD P s d .nilsl
 | .str b=>qConvS P s d b (XQ P d)
 | _=>none
theorem qs_convertH{P : Program}{ε : Operand → AV}{H : Heap}{s d : TypeId}{x : Operand}{C : Prop}{r : AV}
   (h:Yo P H s d (ε x)=some (C,r)) (hC:C):QS P (.convert s d x) ε H r:=by
 by_cases ho:∃k ver off len,ε x= .osl k ver off len
 ·obtain⟨k,ver,off,len,ho⟩:=ho;refine .pure fun dst ty pos after guard c n w ρv hs hr=> ?_;have hx:=hr x (by simp[Op.operands]);rw[ho]at h hx;simp only[Yo]at h;unfold qConvO at h;split at h
  ·rename_i ver' e els hk;simp only[Option.some.injEq,Prod.mk.injEq]at h;obtain⟨rfl,rfl⟩:=h;obtain⟨rfl,rfl,hle,h1,h2,h3⟩:=hC;obtain⟨el,hu,he⟩:=VN h1;have hd:=Y3 h2;have hown:=hs.own k _ hk;simp only[ZR]at hown;obtain⟨l0,hl0,hown⟩:=hown;simp only[Rel]at hx;obtain⟨l1,hl1,hx⟩:=hx;rw[hl0]at hl1;cases hl1;cases l0 with
   | nil=>
     simp only[List.cons.injEq,and_true]at hx;obtain⟨rfl,rfl,ev⟩:=hx;refine⟨.string ⟨#[]⟩,?_,by simp[Rel]⟩;simp[execOp,ev,convert,Zc hu,Zc hd,Zc he,Conv.bytesToString];rfl
   | blk b cap esz=>
     simp only[List.cons.injEq,and_true]at hx;obtain⟨cp,o',hlc,hoc,ho',ev⟩:=hx;obtain⟨rfl,_,_,arr,ty',ds,hw,_,hrf,hat⟩:=hown;by_cases h0:len=0
     ·subst h0;refine⟨.string ⟨#[]⟩,?_,by simp[Rel]⟩;simp[execOp,ev,convert,Zc hu,Zc hd,Zc he,Conv.bytesToString,loadCells,loadCellsFrom];rfl
     ·have ho2:o'=off:=by rcases ho' with h | h<;>omega
      subst ho2;have hsplit:els=els.take o'++((els.drop o').take len++(els.drop o').drop len):=by rw[List.take_append_drop,List.take_append_drop]
      rw[hsplit,RelF.append]at hrf;obtain⟨c1,c2,e1,g1,g2⟩:=hrf;rw[RelF.append]at g2;obtain⟨c3,c4,e2,g3,g4⟩:=g2;obtain⟨ns,e3,hl,hns⟩:=Jj _ c3 h3 g3;have hlen3:((els.drop o').take len).length=len:=by rw[qk,List.length_drop];omega
      have hc1:c1.length=o':=by
        have:=(g1.len).1;rw[this,Rp (e:=1) (fun x hx=>(‹∀x∈els,x.sz=1›) x (List.mem_of_mem_take hx)),qk];omega
      rw[e1,e2,e3]at hat;refine⟨.string (strOfNums ns),?_,?_⟩
      ·have := run_convert_bytes_arg (P := P) w s el hu he b o' len cp ns om (fun i hi => by
         have hi':i<ns.length:=om;have:=hat (o'+i) (.int .u8 ns[i]) (by
           rw[List.getElem?_append_right om,hc1,Nat.add_sub_cancel_left,List.getElem?_append_left (by simpa using hi')];simp[hi'])
         simp only[World.cell?,hw];simpa [List.getD,List.getElem?_eq_getElem hi']using this) d hd
       simp[execOp,ev,this]
      ·simp only[Rel];rw[←hns];rfl
  ·simp at h
 ·by_cases hst:∃b,ε x= .str b
  ·obtain⟨b,hb⟩:=hst;rw[hb]at h;simp only[Yo]at h;cases hd:XQ P d with
   | true=>
     rw[hd]at h;exact NN (by rw[hb];exact h) hC
   | false=>
     rw[hd]at h;simp only[qConvS,Option.some.injEq,Prod.mk.injEq]at h;obtain⟨rfl,rfl⟩:=h;exact qs_convS hb hC.1 hC.2
  ·refine NN (?_:XD P s d (ε x)=some (C,r)) hC;cases ha:ε x with
   | osl k ver off len=>exact(ho ⟨k,ver,off,len,ha⟩).elim
   | str b=>exact(hst ⟨b,ha⟩).elim
   | _=>rw[ha]at h;first | exact h | (simp[Yo]at h;done)
theorem qConvH_bif(P:Program)(H H':Heap)(s d:TypeId)(c:Bool)(x:AV):(Yo P H' s d (bif c then x else .junk)=Yo P H s d (bif c then x else .junk))=(c=true→Yo P H' s d x=Yo P H s d x):=by
 cases c
 ·simp[Yo]
 ·simp
def QU(P:Program)(t:TypeId):Bool:=match P.underlying t with | some (.interface _)=>false | some _=>true | none=>false
def qMkI(P:Program)(t:TypeId)(x:AV):Option (Prop×AV):=some (QU P t=true,.iface t x)
theorem qs_mkI{P:Program}{ε:Operand→AV}{H:Heap}{t:TypeId}{x:Operand}(hC:QU P t=true):QS P (.makeInterface t x) ε H (.iface t (ε x)):=
 .pure fun dst ty pos after guard c n w ρv hs hr=>by
   have hx:=hr x (by simp[Op.operands]);refine⟨.iface t (ρv x),?_,by simp only[Rel];exact⟨_,rfl,hx⟩⟩;unfold QU at hC;cases hu:P.underlying t with
   | none=>rw[hu]at hC;simp at hC
   | some d=>
     rw[hu]at hC;cases d<;>first | (simp at hC;done) | simp[execOp,Instr.makeInterface,Zc hu]
def KD(P:Program)(z:TypeId→AV)(a:TypeId)(ok:Bool):AV→Option (Prop×AV)
 | .iface t v=>some (QU P a=true∧(t=a∨ok=true∧ZW P a (z a)),bif t==a then(bif ok then .tup [v,.bool true]else v)else .tup [z a,.bool false])
 | .nili=>some (QU P a=true∧ok=true∧ZW P a (z a),.tup [z a,.bool false])
 | _=>none
theorem qs_assert{P : Program}{z : TypeId → AV}{ε : Operand → AV}{H : Heap}{x : Operand}{xt a : TypeId}{ok : Bool}{C : Prop}{r : AV}
   (h:KD P z a ok (ε x)=some (C,r)) (hC:C):QS P (.typeAssert x xt a ok) ε H r:=
 .pure fun dst ty pos after guard c n w ρv hs hr=>by
   have hx:=hr x (by simp[Op.operands]);generalize ε x=av at h hx;have key:∀d,P.underlying a=some d→QU P a=true→(∀ms,d≠ .interface ms):=fun d hd hc ms e=>by
     rw[e]at hd;unfold QU at hc;rw[hd]at hc;simp at hc
   have hzr:ZW P a (z a)→∃v,(zeroValue a).run P w= .ok v w∧Rel c (z a) false [v]:=fun⟨_,i,v,hi,hv,hz⟩=>⟨v,by simp[zeroValue,typeInfo,hi,hv],hz c⟩;cases av<;>simp only[KD]at h<;>try (simp at h;done)
   ·simp only[Option.some.injEq,Prod.mk.injEq]at h;obtain⟨rfl,rfl⟩:=h;obtain⟨hc,hok,hz⟩:=hC;subst hok;obtain⟨v,hv,hrel⟩:=hzr hz;simp only[Rel,List.cons.injEq,and_true]at hx;cases hu:P.underlying a with
    | none=>unfold QU at hc;rw[hu]at hc;simp at hc
    | some d=>
      have hd:=key d hu hc;refine⟨.tuple #[v,.bool false],?_,by simp only[Rel];exact⟨_,rfl,by simp[RelT,hrel,Rel]⟩⟩;cases d<;>first | exact absurd rfl (hd _) | simp[execOp,hx,Instr.typeAssert,Zc hu,hv]
   ·rename_i t v;simp only[Option.some.injEq,Prod.mk.injEq]at h;obtain⟨rfl,rfl⟩:=h;obtain⟨hc,hz⟩:=hC;simp only[Rel,List.cons.injEq,and_true]at hx;obtain⟨xv,ev,hxv⟩:=hx;cases hu:P.underlying a with
    | none=>unfold QU at hc;rw[hu]at hc;simp at hc
    | some d=>
      have hd:=key d hu hc;by_cases e:t=a
      ·subst e;simp only[beq_self_eq_true,cond_true];cases ok with
       | true=>
         refine⟨.tuple #[xv,.bool true],?_,by simp only[cond_true,Rel];exact⟨_,rfl,by simp[RelT,hxv,Rel]⟩⟩;cases d<;>first | exact absurd rfl (hd _) | simp[execOp,ev,Instr.typeAssert,Zc hu]
       | false=>
         refine⟨xv,?_,by simpa only[cond_false]using hxv⟩;cases d<;>first | exact absurd rfl (hd _) | simp[execOp,ev,Instr.typeAssert,Zc hu]
      ·obtain⟨hok,hz2⟩:=hz.resolve_left e;subst hok;obtain⟨v2,hv,hrel⟩:=hzr hz2;have e2:(t==a)=false:=by simpa using e
       rw[e2,cond_false];refine⟨.tuple #[v2,.bool false],?_,by simp only[Rel];exact⟨_,rfl,by simp[RelT,hrel,Rel]⟩⟩;cases d<;>first | exact absurd rfl (hd _) | simp[execOp,ev,Instr.typeAssert,Zc hu,e,hv]
section
variable {P:Program}{N:Nat}{ops:Array Oper}
def strip(g:Bool):AV→AV
 | .opt g' x=>bif (!g||g')then x else .junk
 | av=>av
theorem UQ{c:Ctx}{av:AV}{v:Value}{g:Bool}(hg:g=true)(h:Rel c av false [v]):Rel c (strip g av) false [v]:=by
 subst hg;cases av<;>try exact h
 rename_i g' x;simp only[Rel]at h;simp only[strip,Bool.not_true,Bool.false_or];rcases h with⟨rfl,h⟩ | ⟨rfl,h⟩
 ·exact h
 ·simp[Rel]
def gval:AV→Bool→Option Bool
 | .bool x,b=>some (x==b)
 | .opt g (.bool x),b=>some (g&&(x==b))
 | _,_=>none
def gtmp(ops:Array Oper)(j:Nat):Option Tmp:=(ops[j]?).bind (·.dst)
theorem L8{c : Ctx}{T : Nat → AV}{a : Act}(hr : ZJ c T a.tmps){o : Oper}{j : Nat}{b : Bool}(hg : o.guard = some (j, b)){t : Tmp}(ht : gtmp ops j = some t){gv : Bool}
   (h:gval (T t) b=some gv):Region.wanted o (yielded ops a.tmps)=gv:=by
 have hrt:=hr t;have key:∀x,a.tmps.getD t undef= .bool x→a.tmps[t]? =some (.bool x):=fun x hx=>by
   rw[Array.getD_eq_getD_getElem?]at hx;cases hh:a.tmps[t]? with
   | none=>rw[hh]at hx;simp[undef]at hx
   | some v=>rw[hh]at hx;simp at hx;rw[hx]
 have ky:yielded ops a.tmps j=match a.tmps[t]? with | some (.bool b)=>some b | _=>none:=by
   unfold yielded;rw[show((ops[j]?).bind (·.dst))=some t from ht];rfl
 unfold Region.wanted;rw[hg];show(yielded ops a.tmps j==some b)=gv;rw[ky];unfold gval at h;split at h
 ·rename_i x b' heq;rw[heq]at hrt;simp only[Rel,List.cons.injEq,and_true]at hrt;rw[key _ hrt];simp at h ⊢;exact h
 ·rename_i g x b' heq;rw[heq]at hrt;simp only[Rel,List.cons.injEq,and_true]at hrt;rcases hrt with⟨rfl,hrt⟩ | ⟨rfl,hrt⟩
  ·rw[key _ hrt];simp at h ⊢;exact h
  ·simp at h;subst h;have h2:∀x,a.tmps[t]? ≠some (.bool x):=fun x hh=>by
     rw[Array.getD_eq_getD_getElem?,hh]at hrt;simp[undef]at hrt
   split
   ·rename_i x hx;exact absurd hx (h2 x)
   ·rfl
 ·simp at h
def NP(g:Bool):AV→AV→AV→Option (Prop×AV)
 | .bool x,.bool y,.bool z=>some (True,.bool (bif x then y else z))
 | .bool x,.opt ga (.bool y),.bool z=>some (g=true→x=true→ga=true,.bool (bif x then y else z))
 | .bool x,.bool y,.opt gb (.bool z)=>some (g=true→x=false→gb=true,.bool (bif x then y else z))
 | .bool x,.opt ga (.bool y),.opt gb (.bool z)=>some (g=true→(x=true→ga=true)∧(x=false→gb=true),.bool (bif x then y else z))
 | .bool x,.opt _ .junk,.bool z=>some (g=true→x=false,.bool z)
 | _,_,_=>none
def qSlice3(P:Program)(H:Heap)(t:TypeId):Option (Option Int)→Option (Option Int)→Option (Option Int)→AV→Option (Prop×AV)
 | some l,some h,some m,x=>Kb P H t l h m x
 | _,_,_,_=>none
def opQ(P:Program)(z:TypeId→AV)(H:Heap)(g:Bool)(T:Nat→AV):Op→Option (Prop×AV)
 | .move x=>some (True,strip g (evO T x))
 | .assign x=>some (True,strip g (evO T x))
 | .pick c a b=>NP g (strip g (evO T c)) (evO T a) (evO T b)
 | .fieldAddr t x f=>Qf P t f (strip g (evO T x))
 | .load t x=>VT P H t (strip g (evO T x))
 | .indexAddr t x i=>Yu P H t (strip g (evO T x)) (strip g (evO T i))
 | .binOp o t x y _=>qBin P t o (strip g (evO T x)) (strip g (evO T y))
 | .unOp o _ x=>qUn o (strip g (evO T x))
 | .nilCheck x=>qNil (strip g (evO T x))
 | .extract x i=>KC i (strip g (evO T x))
 | .call ⟨.builtin b,args,ts⟩=>NQ P b ts.toList (args.toList.map fun x=>strip g (evO T x))
 | .convert s d x=>Yo P H s d (strip g (evO T x))
 | .field t x i=>qField P t i (strip g (evO T x))
 | .index t x i=>Uy P t (strip g (evO T x)) (strip g (evO T i))
 | .slice t x lo hi mx=>qSlice3 P H t (optI (lo.map fun y=>strip g (evO T y))) (optI (hi.map fun y=>strip g (evO T y))) (optI (mx.map fun y=>strip g (evO T y))) (strip g (evO T x))
 | .build t ps=>qBuild P z t (ps.toList.map fun p=>(p.1,strip g (evO T p.2)))
 | .buildSlice t len ps=>Ul P t len (ps.toList.map (·.1)) (ps.toList.map fun p=>strip g (evO T p.2))
 | .makeFunc fn a b=>LP fn (a.toList.map fun x=>strip g (evO T x)) (b.toList.map fun x=>strip g (evO T x))
 | .lookup t x i ok=>KA P z H t (strip g (evO T i)) ok (strip g (evO T x))
 | .makeInterface t x=>qMkI P t (strip g (evO T x))
 | .typeAssert x _ a ok=>KD P z a ok (strip g (evO T x))
 | _=>none
def QT(P:Program)(op:Op)(T:Nat→AV)(H:Heap)(r:AV):Prop:=
 ∀(dst:Option Tmp) (ty:TypeId) (pos:String) (after:Array Edge) (guard:Option (Nat×Bool)) (c:Ctx) (n:Nat) (w:World) (ρv:Operand→Value),
   Sim c H n w→(∀x∈op.operands,Rel c (evO T x) false [ρv x])→
   ∃v c' w',(execOp ρv ⟨dst,op,ty,pos,after,guard⟩).run P w= .ok (.value v) w'∧Step c H w c' H n w'∧Rel c' r false [v]
theorem Rq{op:Op}{T:Nat→AV}{H:Heap}{r:AV}{g:Bool}(hg:g=true)(h:QS P op (fun x=>strip g (evO T x)) H r):QT P op T H r:=
 fun dst ty pos after guard c n w ρv hs hr=>h dst ty pos after guard c n w ρv hs fun x hx=>UQ hg (hr x hx)
theorem WT{z:TypeId→AV}{H:Heap}{g:Bool}{T:Nat→AV}{op:Op}{C:Prop}{r:AV}(h:opQ P z H g T op=some (C,r))(hg:g=true)(hC:C):QT P op T H r:=by
 unfold opQ at h;split at h
 case h_1 x=>
   simp only[Option.some.injEq,Prod.mk.injEq]at h;obtain⟨_,rfl⟩:=h;exact Rq hg qs_move
 case h_2 x=>
   simp only[Option.some.injEq,Prod.mk.injEq]at h;obtain⟨_,rfl⟩:=h;exact Rq hg qs_assign
 case h_3 x y z=>
   intro dst ty pos after guard c n w ρv hs hr;have hx:=UQ hg (hr x (by simp[Op.operands]));have hy:=hr y (by simp[Op.operands]);have hz:=hr z (by simp[Op.operands]);unfold NP at h;have run:∀b,ρv x= .bool b→(execOp ρv ⟨dst,.pick x y z,ty,pos,after,guard⟩).run P w= .ok (.value (if b then ρv y else ρv z)) w:=fun b hb=>by simp[execOp,hb,asBool]
   split at h
   all_goals first
     | (simp at h;done)
     | (rename_i hb h1 h2
        simp only[Option.some.injEq,Prod.mk.injEq]at h;obtain⟨h3,rfl⟩:=h;rw[←h3]at hC;rw[hb]at hx;rw[h1]at hy;rw[h2]at hz;simp only[Rel,List.cons.injEq,and_true]at hx hy hz;refine⟨_,c,w,run _ hx,.refl hs,?_⟩;simp only[Rel,List.cons.injEq,and_true])
   ·split<;>rename_i e<;>simp[e,hy,hz]
   ·split<;>rename_i e
    ·have e2:=hC hg e;rcases hy with⟨_,hy⟩ | ⟨e3,_⟩
     ·simp[e,hy]
     ·rw[e2]at e3;simp at e3
    ·simp[e,hz]
   ·split<;>rename_i e
    ·simp[e,hy]
    ·have e2:=hC hg (by simpa using e);rcases hz with⟨_,hz⟩ | ⟨e3,_⟩
     ·simp[e,hz]
     ·rw[e2]at e3;simp at e3
   ·split<;>rename_i e
    ·have e2:=(hC hg).1 e;rcases hy with⟨_,hy⟩ | ⟨e3,_⟩
     ·simp[e,hy]
     ·rw[e2]at e3;simp at e3
    ·have e2:=(hC hg).2 (by simpa using e);rcases hz with⟨_,hz⟩ | ⟨e3,_⟩
     ·simp[e,hz]
     ·rw[e2]at e3;simp at e3
   ·rw[hC hg];simp[hz]
 case h_4 t x f=>exact Rq hg (qs_fieldAddr h hC)
 case h_5 t x=>exact Rq hg (qs_load h hC)
 case h_6 t x i=>exact Rq hg (qs_indexAddr h hC)
 case h_7 o t x y _=>exact Rq hg (qs_bin h hC)
 case h_8 o t x=>exact Rq hg (qs_un h)
 case h_9 x=>exact Rq hg (qs_nil h)
 case h_10 x i=>exact Rq hg (qs_extract h hC)
 case h_11 b args ts=>exact Rq hg (qs_builtin h hC)
 case h_12 s d x=>exact Rq hg (qs_convertH h hC)
 case h_13 t x i=>exact Rq hg (qs_field h hC)
 case h_14 t x i=>exact Rq hg (qs_index h hC)
 case h_15 t x lo hi mx=>
   unfold qSlice3 at h;split at h
   ·rename_i l h' m x' e1 e2 e3;exact Rq hg (qs_slice e1 e2 e3 h hC)
   ·simp at h
 case h_16 t ps=>exact Rq hg (qs_build h hC)
 case h_17 t len ps=>exact Rq hg (qs_buildSlice h hC)
 case h_18 fn a b=>
   simp only[LP,Option.some.injEq,Prod.mk.injEq]at h;obtain⟨_,rfl⟩:=h;exact Rq hg qs_makeFunc
 case h_19 t x i ok=>exact Rq hg (qs_lookup h hC)
 case h_20 t x=>
   simp only[qMkI,Option.some.injEq,Prod.mk.injEq]at h;obtain⟨h1,rfl⟩:=h;exact Rq hg (qs_mkI (h1▸hC))
 case h_21 x xt a ok=>exact Rq hg (qs_assert h hC)
 case h_22=>simp at h
theorem RH{o : Oper}{T : Nat → AV}{H : Heap}{n : Nat}{K : ARes → Heap → Nat → Prop}{r : AV}
   (h:QT P o.op T H r) (V:K (.val r) H n):OpT P o (evO T) H n K:=fun c w a hs hr next Q hn _=>by
 obtain⟨v,c',w',hrun,hst,hrel⟩:=h o.dst o.type o.pos o.after o.guard c n w a.eval hs hr;have e:(⟨o.dst,o.op,o.type,o.pos,o.after,o.guard⟩:Oper)=o:=rfl;rw[e]at hrun;unfold Oper.wp;rw[hrun];exact hn r v c' H n w' V hst hrel
end
def cont(x:Option (Prop×AV))(k:AV→Prop):Prop:=
 match x with
 | some (C,r)=>C∧k r
 | none=>False
@[congr] theorem cont_congr{x y:Option (Prop×AV)}{k:AV→Prop}(h:x=y):cont x k=cont y k:=by rw[h]
theorem cont_some(C:Prop)(r:AV)(k:AV→Prop):cont (some (C,r)) k=(C∧k r):=rfl
def Xb(g:Bool)(x:Option (Prop×AV))(k:AV→Prop):Prop:=
 match x with
 | some (C,r)=>(g=true→C)∧k (.opt g r)
 | none=>g=false∧k (.opt g .junk)
@[congr] theorem contG_congr{g g':Bool}{x y:Option (Prop×AV)}{k:AV→Prop}(hg:g=g')(h:x=y):Xb g x k=Xb g' y k:=by rw[hg,h]
theorem contG_some(g:Bool)(C:Prop)(r:AV)(k:AV→Prop):Xb g (some (C,r)) k=((g=true→C)∧k (.opt g r)):=rfl
theorem contG_none(g:Bool)(k:AV→Prop):Xb g none k=(g=false∧k (.opt g .junk)):=rfl
def Z7(x:Option Bool)(k:Bool→Prop):Prop:=
 match x with
 | some g=>k g
 | none=>False
@[congr] theorem contB_congr{x y:Option Bool}{k:Bool→Prop}(h:x=y):Z7 x k=Z7 y k:=by rw[h]
theorem contB_some(g:Bool)(k:Bool→Prop):Z7 (some g) k=k g:=rfl
def Y7(x:Option (Prop×AV×Heap×Nat))(k:AV→Heap→Nat→Prop):Prop:=
 match x with
 | some (C,r,H,n)=>C∧k r H n
 | none=>False
@[congr] theorem contW_congr{x y:Option (Prop×AV×Heap×Nat)}{k:AV→Heap→Nat→Prop}(h:x=y):Y7 x k=Y7 y k:=by rw[h]
theorem contW_some(C:Prop)(r:AV)(H:Heap)(n:Nat)(k:AV→Heap→Nat→Prop):Y7 (some (C,r,H,n)) k=(C∧k r H n):=rfl
def ExtC(P:Program)(f:FuncId)(args:List AV)(H:Heap)(n:Nat)(k:AV→Heap→Nat→Prop):Prop:=
 ∀(c:Ctx) (w:World) (vs:List Value),Sim c H n w→RelT c args vs→∃r v c' H' n' w',(callFunc f vs.toArray).run P w= .ok (.value v) w'∧Step c H w c' H' n' w'∧Rel c' r false [v]∧k r H' n'
def Vr(P:Program)(fv:AV)(args:List AV)(H:Heap)(n:Nat)(k:AV→Heap→Nat→Prop)(kp:AV→Heap→Nat→Prop):Prop:=
 match fv with
 | .fn (.func f) first captured => ((∃ fn : Func, P.funcs[f]? = some fn ∧ fn.body.isSome ∧ (fn.name == "runtime.NumGoroutine") = false) ∧ Zn P f (first ++ args ++ captured) H n fun res H' n' => match res with
     | .val r=>k r H' n'
     | .pan p=>kp p H' n')∨ExtC P f (first++args++captured) H n k
 | _=>False
@[congr] theorem callK_congr{P:Program}{fv fv':AV}{args args':List AV}{H H':Heap}{n n':Nat}{k kp:AV→Heap→Nat→Prop}(h1:fv=fv')(h2:args=args')(h3:H=H')(h4:n=n'):
 Vr P fv args H n k kp=Vr P fv' args' H' n' k kp:=by rw[h1,h2,h3,h4]
theorem OpT.call{P : Program}{dst : Option Tmp}{ty : TypeId}{pos : String}{after : Array Edge}{guard : Option (Nat × Bool)}{fo : Operand}{args : Array Operand}{ts : Array TypeId}{ε : Operand → AV}{H : Heap}{n : Nat}{k kp : AV → Heap → Nat → Prop}
   (h:Vr P (ε fo) (args.toList.map ε) H n k kp):
   OpT P ⟨dst,.call ⟨.value fo,args,ts⟩,ty,pos,after,guard⟩ ε H n (fun res H' n'=>match res with | .val r=>k r H' n' | .pan p=>kp p H' n'):=fun c w a hs hr next Q hn hp=>by
 obtain⟨az⟩:=args;have hf:=hr fo (by simp[Op.operands,Call.operands]);have hargs:RelT c (az.map ε) (az.map a.eval):=RelT.of_map az fun x hx=>hr x (by simp[Op.operands,Call.operands,hx]);generalize ε fo=fv at h hf;cases fv<;>simp only[Vr]at h;rename_i f first captured
 cases f<;>simp only at h;rename_i f;simp only[Rel,List.cons.injEq,and_true]at hf;obtain⟨fv,cv,ef,h1,h2⟩:=hf;rcases h with⟨⟨fn,hfn,hbody,hname⟩,hcall⟩ | hext
 rotate_left
 ·obtain⟨r,v,c',H',n',w',hrun,hst,hrel,hk⟩:=hext c w (fv.toList++az.map a.eval++cv.toList) hs (RelT.append.2 ⟨_,_,rfl,RelT.append.2 ⟨_,_,rfl,h1,hargs⟩,h2⟩);have hrun2:(execOp a.eval ⟨dst,.call ⟨.value fo,az.toArray,ts⟩,ty,pos,after,guard⟩).run P w= .ok (.value v) w':=by
    simp only[execOp,resolve,ef,Deferred.ofValue,Sem.run_bind,Sem.run_pure,Result.andThen_ok,invoke];have e:(fv++(List.map a.eval az).toArray++cv)=(fv.toList++az.map a.eval++cv.toList).toArray:=osi;simpa [e]using hrun
  unfold Oper.wp;rw[hrun2];exact hn r v c' H' n' w' hk hst hrel
 have hT:RelT c (first++az.map ε++captured) (fv.toList++az.map a.eval++cv.toList):=RelT.append.2 ⟨_,_,rfl,RelT.append.2 ⟨_,_,rfl,h1,hargs⟩,h2⟩;have hrun:(execOp a.eval ⟨dst,.call ⟨.value fo,az.toArray,ts⟩,ty,pos,after,guard⟩).run P w= .ok (.enter f (fv.toList++az.map a.eval++cv.toList).toArray) w:=by
   have hb:fn.body.isNone=false:=by cases hh:fn.body<;>simp_all
   simp only[execOp,resolve,ef,Deferred.ofValue,Sem.run_bind,Sem.run_pure,Result.andThen_ok,invoke,callFunc,run_program,hfn,hname,hb];simp
 unfold Oper.wp;rw[hrun];simp only[Oper.upon];refine(hcall c w _ hs hT).mono ?_;rintro e w' ⟨res,c',H',n',V,hst,hm⟩;cases e with
 | returned v=>
   cases res with
   | val r=>exact hn r v c' H' n' w' V hst hm
   | pan p=>exact hm.elim
 | panicked ch=>
   cases res with
   | val r=>exact hm.elim
   | pan p=>
     obtain⟨v,rfl,hv⟩:=hm;exact hp p v c' H' n' w' V hst hv
 | outgrown=>cases res<;>exact hm.elim
def AV.upd:AV→List Nat→AV→AV
 | _,[],v=>v
 | d,f::p,v=>d.setf f ((d.fld f).upd p v)
theorem R7{c : Ctx}: ∀ (p : List Nat) (d : AV) (ds : List Value), Rel c d true ds → d.pathOK p →
   ∃a x b,ds=a++(x++b)∧a.length=d.pathOff p∧Rel c (d.at p) true x∧∀v vs,Rel c v true vs→Rel c (d.upd p v) true (a++(vs++b))
 | [],d,ds,h,_=>⟨[],ds,[],osi,rfl,h,fun v vs hv=>by simpa [AV.upd]using hv⟩
 | f::p,d,ds,h,hp=>by
   obtain⟨hf,hp⟩:=hp;cases d<;>simp only[AV.nf,Nat.not_lt_zero]at hf;rename_i fs;simp only[Rel]at h;obtain⟨a1,y,b1,ed,hy,hla,hra,hrb⟩:=RelF.nth h (List.getElem?_eq_getElem hf);have efld:(AV.agg fs).fld f=fs[f]:=by simp[AV.fld,List.getD,List.getElem?_eq_getElem hf]
   rw[efld]at hp;obtain⟨a2,x,b2,ey,hl2,hx,hu⟩:=R7 p _ _ hy hp;refine⟨a1++a2,x,b2++b1,by rw[ed,ey];simp,by rw[qe,hla,hl2];simp[AV.pathOff,AV.offs,efld],by simpa [AV.at,efld]using hx,fun v vs hv=> ?_⟩;have h2:=hu v vs hv;simp only[AV.upd,efld,AV.setf,Rel];have e:fs.set f (fs[f].upd p v)=fs.take f++(fs[f].upd p v)::fs.drop (f+1):=by
     rw[List.set_eq_take_append_cons_drop,if_pos hf]
   rw[e];refine RelF.append.2 ⟨a1,a2++(vs++b2)++b1,osi,hra,?_⟩;simp only[RelF];exact⟨_,_,rfl,h2,hrb⟩
def wStoreO(P:Program)(H:Heap)(n:Nat)(t:TypeId)(v:AV)(k ver off i:Nat)(p:List Nat):Option AObj→Option (Prop×AV×Heap×Nat)
 | some (.arr ver' esz els) =>
     some (ver=ver'∧i<els.length∧off=i*esz+(nth els i).pathOff p∧(nth els i).pathOK p∧((nth els i).at p).sz=v.sz∧tSz P t=some v.sz∧v.memOK=true,
       .junk,H.put k (some (.arr ver esz (els.set i ((nth els i).upd p v)))),n)
 | _=>none
def wStore(P:Program)(H:Heap)(n:Nat)(t:TypeId):AV→AV→Option (Prop×AV×Heap×Nat)
 | .loc k ver off i p,v=>wStoreO P H n t v k ver off i p (H k)
 | _,_=>none
theorem XN{c:Ctx}{av:AV}{v:Value}(h:Rel c av false [v])(hm:av.memOK=true):Rel c av true v.cells.toList∧v.cells.size=av.sz∧∀x∈v.cells.toList,x.oneCell'=true:=by
 have h1:=RY h hm;obtain⟨hl,ho⟩:=Rel.len _ _ h1;exact⟨h1,by simpa using hl,ho⟩
theorem info_of_tSz{P:Program}{t s:Nat}(h:tSz P t=some s):∃i,P.info? t=some i∧i.size=s:=by
 unfold tSz at h;cases hh:P.info? t with
 | none=>rw[hh]at h;simp at h
 | some i=>rw[hh]at h;simp at h;exact⟨i,rfl,h⟩
theorem ot_store{P : Program}{H : Heap}{n : Nat}{dst : Option Tmp}{t : TypeId}{x v : Operand}{ty : TypeId}{pos : String}{after : Array Edge}{guard : Option (Nat × Bool)}{ε : Operand → AV}
   {C:Prop} {r:AV} {H':Heap} {n':Nat} {K:ARes→Heap→Nat→Prop}
   (h:wStore P H n t (ε x) (ε v)=some (C,r,H',n')) (hC:C) (V:K (.val r) H' n'):OpT P ⟨dst,.store t x v,ty,pos,after,guard⟩ ε H n K:=
 OpT.of_run fun c w ρv hs hr=>by
   have hx:=hr x (by simp[Op.operands]);have hv:=hr v (by simp[Op.operands]);generalize ε x=xa at h hx;generalize ε v=va at h hv;cases xa<;>simp only[wStore]at h<;>try (simp at h;done)
   rename_i k ver off i p;unfold wStoreO at h;split at h
   ·rename_i ver' esz els hk;simp only[Option.some.injEq,Prod.mk.injEq,nth]at h;obtain⟨rfl,rfl,rfl,rfl⟩:=h;obtain⟨e1,e2,e3,e4,e5,e6,e7⟩:=hC;subst e1;simp only[Rel,List.cons.injEq,and_true]at hx;obtain⟨b,cap,esz',hl,ev⟩:=hx;obtain⟨he,hc,arr,ty',ds,xc,hb,hsz,hrf,ha,hxr,hax,hz⟩:=(hs.own k _ hk).elem hl e2;subst he;obtain⟨hvm,hvs,hvo⟩:=XN hv e7;obtain⟨a0,y0,b0,ed,hy0,hla0,hra0,hrb0⟩:=RelF.nth hrf (List.getElem?_eq_getElem e2);have egd:els.getD i .junk=els[i]:=by simp[List.getD,List.getElem?_eq_getElem e2]
    rw[egd]at e3 e4 e5 hxr;obtain⟨a1,y,b1,ey,hly,hy,hu⟩:=R7 p _ _ hy0 e4;have hupd:=hu va _ hvm;have hylen:y.length=(ρv v).cells.toList.length:=by rw[(Rel.len _ _ hy).1,e5,(Rel.len _ _ hvm).1]
    generalize hvs':(ρv v).cells.toList=vs at*;obtain⟨post,hp⟩:=At.zero.1 ha;have hla0':a0.length=i*esz':=by
      rw[hla0,Rp (fun y hy=>hz y (List.mem_of_mem_take hy)),qk,Nat.min_eq_left om]
    have hoff:off=(a0++a1).length:=by rw[qe,hla0',hly,e3]
    have harr:arr.toList=(a0++a1)++(y++(b1++b0++post)):=by rw[hp,ed,ey];simp
    have hsize:arr.size=arr.toList.length:=osi;have hbo:Zm c k (.arr ver esz' els)=some b:=by simp[Zm,AObj.ver,hl]
    have hst:=run_storeCells_at (P:=P) b off ty' vs 0 arr w hb (by rw[hsize,harr,hoff];simp[hylen];omega) hvo;have htake:arr.toList.take (off+0)=a0++a1:=by rw[harr,Nat.add_zero,hoff,List.take_left]
    have hdrop:arr.toList.drop (off+0+vs.length)=b1++b0++post:=by
      rw[harr,Nat.add_zero,hoff,←hylen,←qf,←qe,List.drop_left]
    rw[htake,hdrop]at hst;obtain⟨info,hinfo,hisz⟩:=info_of_tSz e6;have hwb:∀b',b'≠b→(w.setRow b (a0++a1++vs++(b1++b0++post)).toArray).heap[b']? =w.heap[b']? :=fun b' hb'=>setRow_other w b b' _ hb';refine⟨.junk,undef,c,_,n,w.setRow b (a0++a1++vs++(b1++b0++post)).toArray,.inr ⟨?_,rfl⟩,?_,by simp[Rel],V⟩
    ·have hsz2:(ρv v).cells.size=info.size:=by rw[hvs,hisz]
     simp[execOp,ev,Instr.storeAt,Instr.sureAddr,storeVar,ZU hinfo,hsz2,hvs',hst]
    ·refine Step.write hs k _ (.arr ver esz' (els.set i ((els.getD i .junk).upd p va))) hk rfl ⟨rfl, rfl, rfl, by simp [World.setRow], fun b' _ hS => hwb b' fun e => hS ⟨k, _, hk, by rw [e]; exact hbo⟩⟩
       (fun k' o' b' hne hk' hb'=>hwb b' fun e=>hne (hs.inj k' k o' _ b hk' hk (by rw[←e];exact hb') hbo))
       (fun b' a' hb'=>hwb b' fun e=>by have:=hs.sep k _ b hk hbo;rw[←e,hb']at this;simp at this) ?_
     simp only[ZR];have helems:∀x∈els.set i ((els.getD i .junk).upd p va),x.sz=esz':=fun x hx=>by
       rcases List.mem_or_eq_of_mem_set hx with h | h
       ·exact hz x h
       ·rw[h,egd,←(Rel.len _ _ hupd).1];have:(a1++(vs++b1)).length=y0.length:=by rw[ey];simp[hylen]
        rw[this,(Rel.len _ _ hy0).1];exact hz _ (List.getElem_mem e2)
     refine⟨_,hl,rfl,helems,by simpa using hc,_,ty',a0++((a1++(vs++b1))++b0),setRow_heap w b arr _ ty' _ hb,?_,?_,At.zero.2 ⟨post,osi⟩⟩
     ·rw[←hsz,hsize,harr];simp[hylen]
     ·have es : els.set i ((els.getD i .junk).upd p va) = els.take i ++ ((els.getD i .junk).upd p va) :: els.drop (i + 1) := by
        rw[List.set_eq_take_append_cons_drop,if_pos e2]
      rw[es];refine RelF.append.2 ⟨a0,(a1++(vs++b1))++b0,rfl,hra0,?_⟩;simp only[RelF];exact⟨_,_,rfl,by rw[egd];exact hupd,hrb0⟩
   ·simp at h
def wBox(H:Heap)(n:Nat)(v:AV):Option (Prop×AV×Heap×Nat):=
 some (v.memOK=true,.loc n 0 0 0 [],H.put n (some (.arr 0 v.sz [v])),n+1)
theorem Ry{c : Ctx}{H : Heap}{n : Nat}{w : World}(hs : Sim c H n w)(arr : Array Value)(ty : TypeId)(cap esz : Nat)(els : List AV)(ds : List Value)
   (hz:∀x∈els,x.sz=esz) (hcap:els.length≤cap) (hsz:arr.size=cap*esz) (hr:RelF c els ds) (ha:At arr 0 ds):
   Step c H w (c.addLoc n 0 (.blk w.heap.size cap esz)) (H.put n (some (.arr 0 esz els))) (n+1) (w.alloc (.cells arr ty)):=by
 have hf:=hs.fresh n (Nat.le_refl _);refine Step.renew (n':=n+1) hs n (.arr 0 esz els) (.blk w.heap.size cap esz) om om (hf.2 0) (fun v _=>hf.2 v) (.alloc _ _ _) ?_ ?_ ?_ ?_
 ·intro k' o' b _ hk' hb;have:=(hs.own k' o' hk').lt hb;show(w.heap.push _)[b]? =_;rw[Array.getElem?_push,if_neg om]
 ·intro b a hb;have:b<w.heap.size:=by
    obtain⟨t,fr,hx⟩:=hs.ro b a hb;exact kaX
  show(w.heap.push _)[b]? =_;rw[Array.getElem?_push,if_neg om]
 ·simp only[ZR];exact⟨_,Rn,rfl,hz,hcap,arr,ty,ds,UB,hsz,RelF.mono (Rx (hf.2 0)) _ _ hr,ha⟩
 ·intro b cap' e hl;cases hl;exact⟨hs.ro_size (Nat.le_refl _),.inl (Nat.le_refl _)⟩
theorem ot_box{P : Program}{H : Heap}{n : Nat}{dst : Option Tmp}{t : TypeId}{x : Operand}{ty : TypeId}{pos : String}{after : Array Edge}{guard : Option (Nat × Bool)}{ε : Operand → AV}
   {C:Prop} {r:AV} {H':Heap} {n':Nat} {K:ARes→Heap→Nat→Prop}
   (h:wBox H n (ε x)=some (C,r,H',n')) (hC:C) (V:K (.val r) H' n'):OpT P ⟨dst,.box t x,ty,pos,after,guard⟩ ε H n K:=
 OpT.of_run fun c w ρv hs hr=>by
   have hx:=hr x (by simp[Op.operands]);simp only[wBox,Option.some.injEq,Prod.mk.injEq]at h;obtain⟨rfl,rfl,rfl,rfl⟩:=h;obtain⟨hm,hsz,ho⟩:=XN hx hC;refine⟨_,.pointer (some ⟨w.heap.size,0,none⟩),_,_,_,w.alloc (.cells (ρv x).cells t),.inl (by simp[execOp,Instr.box,newVar,newRow]),Ry hs (ρv x).cells t 1 (ε x).sz [ε x] _ osi osi (by simp[hsz]) ?_ (At.self rfl),?_,V⟩
   ·simp only[RelF];exact⟨_,[],osi,hm,rfl⟩
   ·simp only[Rel];exact⟨_,_,_,Rn,rfl⟩
def wAlloc(P:Program)(z:TypeId→AV)(H:Heap)(n:Nat)(t:TypeId):Option (Prop×AV×Heap×Nat):=
 some (ZW P t (z t),.loc n 0 0 0 [],H.put n (some (.arr 0 (z t).sz [z t])),n+1)
theorem ot_alloc{P : Program}{z : TypeId → AV}{H : Heap}{n : Nat}{dst : Option Tmp}{t : TypeId}{ty : TypeId}{pos : String}{after : Array Edge}{guard : Option (Nat × Bool)}{ε : Operand → AV}
   {C:Prop} {r:AV} {H':Heap} {n':Nat} {K:ARes→Heap→Nat→Prop}
   (h:wAlloc P z H n t=some (C,r,H',n')) (hC:C) (V:K (.val r) H' n'):OpT P ⟨dst,.alloc t,ty,pos,after,guard⟩ ε H n K:=
 OpT.of_run fun c w ρv hs _=>by
   simp only[wAlloc,Option.some.injEq,Prod.mk.injEq]at h;obtain⟨rfl,rfl,rfl,rfl⟩:=h;obtain⟨hm,i,v,hi,hv,hz⟩:=hC;obtain⟨hm,hsz,ho⟩:=XN (hz c) hm;refine⟨_,.pointer (some ⟨w.heap.size,0,none⟩),_,_,_,w.alloc (.cells v.cells t),.inl (by simp[execOp,Instr.alloc,zeroValue,typeInfo,hi,hv,newVar,newRow]),Ry hs v.cells t 1 (z t).sz [z t] _ osi osi (by simp[hsz]) ?_ (At.self rfl),?_,V⟩
   ·simp only[RelF];exact⟨_,[],osi,hm,rfl⟩
   ·simp only[Rel];exact⟨_,_,_,Rn,rfl⟩
def tElT(P:Program)(t:TypeId):Option TypeId:=match P.underlying t with | some (.slice e)=>some e | _=>none
theorem tElT_spec{P:Program}{t e:TypeId}(h:tElT P t=some e):P.underlying t=some (.slice e):=by unfold tElT at h;split at h<;>simp_all
def wMkSl2(P:Program)(z:TypeId→AV)(H:Heap)(n:Nat)(l c:Int):Option TypeId→Option (Nat×Nat)→Option (Prop×AV×Heap×Nat)
 | some e, some (s, b) => some (0 ≤ l ∧ l ≤ c ∧ b * c ≤ 281474976710656 ∧ c ≤ 9223372036854775807 ∧ s = (z e).sz ∧ ZW P e (z e),
     .osl n 0 0 l.toNat,H.put n (some (.arr 0 s (List.replicate c.toNat (z e)))),n+1)
 | _,_=>none
def wMkSl(P:Program)(z:TypeId→AV)(H:Heap)(n:Nat)(t:TypeId):AV→AV→Option (Prop×AV×Heap×Nat)
 | .int _ l,.int _ c=>wMkSl2 P z H n l c (tElT P t) (tEl P t)
 | _,_=>none
theorem LH{c:Ctx}{zv:AV}{cells:Array Value}{s:Nat}(hs:cells.size=s)(h:Rel c zv true cells.toList):∀m:Nat,RelF c (List.replicate m zv) (madeCells cells (m*s)).toList
 | 0=>by simp[madeCells,RelF]
 | m+1=>by
   have ih:=LH hs h m;rw[List.replicate_succ',RelF.append];refine⟨_,cells.toList,?_,ih,?_⟩
   ·apply List.ext_getElem
    ·simp[madeCells,hs,Nat.add_mul]
    ·intro i h1 h2;simp only[madeCells,Array.toList_map,Array.toList_range,List.getElem_map,List.getElem_range];simp only[madeCells,Array.toList_map,Array.toList_range,qb,List.length_range,Nat.add_mul,Nat.one_mul]at h1;by_cases hi:i<m*s
     ·rw[List.getElem_append_left (by simpa using hi)];simp
     ·rw[List.getElem_append_right (by simpa using hi)];simp only[qb,List.length_range,Array.getElem_toList];have e:i%cells.size=i-m*s:=by
        rw[hs];have:i=(i-m*s)+s*m:=by rw[Nat.mul_comm s m];omega
        rw[this,Nat.add_mul_mod_self_left,Nat.mod_eq_of_lt om];rw[Nat.mul_comm s m];omega
      rw[e];exact getElem!_pos cells _ om
   ·simp only[RelF];exact⟨_,[],osi,h,rfl⟩
theorem ot_makeSlice{P : Program}{z : TypeId → AV}{H : Heap}{n : Nat}{dst : Option Tmp}{t : TypeId}{x y : Operand}{ty : TypeId}{pos : String}{after : Array Edge}{guard : Option (Nat × Bool)}{ε : Operand → AV}
   {C:Prop} {r:AV} {H':Heap} {n':Nat} {K:ARes→Heap→Nat→Prop}
   (h:wMkSl P z H n t (ε x) (ε y)=some (C,r,H',n')) (hC:C) (V:K (.val r) H' n'):OpT P ⟨dst,.makeSlice t x y,ty,pos,after,guard⟩ ε H n K:=
 OpT.of_run fun c w ρv hs hr=>by
   have hx:=hr x (by simp[Op.operands]);have hy:=hr y (by simp[Op.operands]);generalize ε x=a at h hx;generalize ε y=b at h hy;cases a<;>cases b<;>simp only[wMkSl]at h<;>try (simp at h;done)
   rename_i k1 l k2 m;unfold wMkSl2 at h;split at h
   ·rename_i e s by' he hel
    simp only[Option.some.injEq,Prod.mk.injEq]at h;obtain⟨rfl,rfl,rfl,rfl⟩:=h;obtain⟨c1,c2,c3,c4,c5,hm,i,v,hi,hv,hz⟩:=hC;obtain⟨e2,i2,v2,hu,hi2,hv2,hvs,hpos,hsz2,hby⟩:=UO hel;have hu1:=tElT_spec he;rw[hu1]at hu;cases hu;rw[hi]at hi2;cases hi2;rw[hv]at hv2;cases hv2;obtain⟨hcm,hsz,ho⟩:=XN (hz c) hm;simp only[Rel,List.cons.injEq,and_true]at hx hy;have hrun:=run_make (P:=P) w t e i v hu1 hi hv k1 k2 l m c1 c2 (by rw[hby];exact c3) c4;refine⟨_,.slice (some ⟨w.heap.size,0,none⟩) l.toNat m.toNat,_,_,_,w.alloc (.cells (madeCells v.cells (m.toNat*i.size)) e),.inl (by simp[execOp,hx,hy,hrun]),
      Ry hs (madeCells v.cells (m.toNat*i.size)) e m.toNat s (List.replicate m.toNat (z e)) _ (fun y hy=>by rw[(List.mem_replicate.1 hy).2,c5]) osi (by rw[size_madeCells,hsz2]) (LH hvs hcm _) (At.self rfl),?_,V⟩
    simp only[Rel];refine⟨_,Rn,m.toNat,0,om,om,osi,rfl⟩
   ·simp at h
def slcO(H:Heap):AV→Option (Prop×Option Nat×List AV)
 | .nilsl=>some (True,none,[])
 | .sl e xs=>some (True,some e,xs)
 | .osl k ver off len=>slcA ver off len (H k)
 | _=>none
where slcA (ver off len:Nat):Option AObj→Option (Prop×Option Nat×List AV)
  | some (.arr ver' esz els)=>some (ver=ver'∧off+len≤els.length,some esz,(els.drop off).take len)
  | _=>none
theorem JA{c : Ctx}{H : Heap}{n : Nat}{w : World}(hs : Sim c H n w){y : AV}{vy : Value}(hr : Rel c y false [vy]){C : Prop}{eo : Option Nat}{ys : List AV}(h : slcO H y = some (C, eo, ys))(hC : C):
   ∃a cap ds,vy= .slice a ys.length cap∧RelF c ys ds∧(∀x∈ys,∀e,eo=some e→x.sz=e)∧((a=none∧ys=[])∨∃ad,a=some ad∧∀j u,ds[j]? =some u→w.cell? (ad.add j)=some u):=by
 unfold slcO at h;split at h
 ·simp only[Option.some.injEq,Prod.mk.injEq]at h;obtain⟨_,rfl,rfl⟩:=h;simp only[Rel,List.cons.injEq,and_true]at hr;exact⟨none,0,[],by simpa using hr,by simp[RelF],osi,.inl ⟨rfl,rfl⟩⟩
 ·rename_i e xs;simp only[Option.some.injEq,Prod.mk.injEq]at h;obtain⟨_,rfl,rfl⟩:=h;simp only[Rel,List.cons.injEq,and_true]at hr;obtain⟨a,cap,ev,_,hz,hx⟩:=hr;by_cases hne:xs=[]
  ·subst hne;refine⟨a,cap,[],ev,by simp[RelF],osi,?_⟩;cases a with
   | none=>exact .inl ⟨rfl,rfl⟩
   | some ad=>exact .inr ⟨ad,rfl,fun j u h=>by simp at h⟩
  ·obtain⟨b,off,arr,ds,rfl,hb,hrf,ha⟩:=hx.resolve_left hne;obtain⟨ty,fr,hw⟩:=hs.ro b arr hb;exact⟨_,cap,ds,ev,hrf,fun x hx e' he=>by cases he;exact hz x hx,.inr ⟨_,rfl,fun j u hj=>by rw[Addr.add_plain];simp only[World.cell?,hw];simpa using ha j u hj⟩⟩
 ·rename_i k ver off len;unfold slcO.slcA at h;split at h
  ·rename_i ver' esz els hk;simp only[Option.some.injEq,Prod.mk.injEq]at h;obtain⟨rfl,rfl,rfl⟩:=h;obtain⟨e1,e2⟩:=hC;subst e1;have hlen:((els.drop off).take len).length=len:=oz;simp only[Rel,List.cons.injEq,and_true]at hr;obtain⟨l,hl,hm⟩:=hr;have ho:=hs.own k _ hk;simp only[ZR]at ho;obtain⟨l',hl',hm'⟩:=ho;rw[hl]at hl';cases hl';cases l with
   | nil=>
     obtain⟨_,h2,ev⟩:=hm;subst h2;exact⟨none,0,[],by simpa using ev,by simp[RelF],osi,.inl ⟨rfl,osi⟩⟩
   | blk b cap e=>
     obtain⟨cp,o',h1,h2,h3,ev⟩:=hm;obtain⟨he,hz,hc,arr,ty,ds,hb,hsz,hrf,ha⟩:=hm';subst he;have hzz:∀x∈(els.drop off).take len,∀e',some e=some e'→x.sz=e':=fun x hx e' he=>by cases he;exact hz x (List.mem_of_mem_drop (List.mem_of_mem_take hx))
     by_cases h0:len=0
     ·subst h0;exact⟨_,cp,[],by simpa using ev,by simp[RelF],osi,.inr ⟨_,rfl,fun j u h=>by simp at h⟩⟩
     ·have eo:o'=off*e:=by rcases h3 with h3 | h3<;>omega
      subst eo;have e1:els=els.take off++((els.drop off).take len++(els.drop off).drop len):=by rw[List.take_append_drop,List.take_append_drop]
      rw[e1]at hrf;obtain⟨d1,r1,ed,hr1,hr2⟩:=RelF.append.1 hrf;obtain⟨d2,d3,ed2,hr3,hr4⟩:=RelF.append.1 hr2;subst ed;subst ed2;have hl1:d1.length=off*e:=by
        exact kat
      obtain⟨_,ha2⟩:=At.append.1 ha;obtain⟨ha3,_⟩:=At.append.1 ha2;refine⟨_,cp,d2,by rw[hlen];exact ev,hr3,hzz,.inr ⟨_,rfl,fun j u hj=> ?_⟩⟩;rw[Addr.add_plain];simp only[World.cell?,hb];have:=ha3 j u hj;rw[hl1]at this;simpa using this
  ·simp at h
 ·simp at h
def wAppA(k ver off len:Nat)(H:Heap)(n s by':Nat)(C:Prop)(eo:Option Nat)(ys:List AV):Option AObj→Option (Prop×AV×Heap×Nat)
 | some (.arr ver' esz els) => some (ver = ver' ∧ off = 0 ∧ len ≤ els.length ∧ esz = s ∧ C ∧ (eo = none ∨ eo = some s) ∧ (len + ys.length) * by' ≤ 140737488355328 ∧ len + ys.length ≤ 4611686018427387904,
     .osl k (ver+1) 0 (len+ys.length),H.put k (some (.arr (ver+1) esz (els.take len++ys))),n)
 | _=>none
def wApp2(H:Heap)(n:Nat):AV→Option (Nat×Nat)→Option (Prop×Option Nat×List AV)→Option (Prop×AV×Heap×Nat)
 | .nilsl,some (s,by'),some (C,eo,ys)=>some (C∧(eo=none∨eo=some s)∧ys.length*by'≤140737488355328∧ys.length≤4611686018427387904,.sl s ys,H,n)
 | .osl k ver off len,some (s,by'),some (C,eo,ys)=>wAppA k ver off len H n s by' C eo ys (H k)
 | _,_,_=>none
def Na(P:Program)(H:Heap)(n:Nat)(t:TypeId)(x y:AV):Option (Prop×AV×Heap×Nat):=wApp2 H n x (tEl P t) (slcO H y)
theorem X0{P : Program}{w : World}{t e ty : TypeId}{i : TypeInfo}(ht : P.underlying t = some (.slice e))(hi : P.info? e = some i)(b a : Option Addr)(sl cp c : Nat)(hle : sl ≤ cp):
   (Builtin.append_ #[t,t] ty #[.slice b sl cp,.slice a 0 c]).run P w= .ok (.slice b sl cp) w:=by
 have hf:(Builtin.firstCells i.size 0 (.slice a 0 c)).run P w= .ok #[] w:=by
   cases a<;>simp[Builtin.firstCells,loadCells,loadCellsFrom]
 cases b with
 | none=>simp[Builtin.append_,Zc ht,sizeOf,typeInfo,hi,Builtin.lenOf,hle,hf]
 | some b=>simp[Builtin.append_,Zc ht,sizeOf,typeInfo,hi,Builtin.lenOf,hle,hf,storeCells]
theorem run_append_room'{P : Program}{w : World}{t e ty tyb : TypeId}{i : TypeInfo}(ht : P.underlying t = some (.slice e))(hi : P.info? e = some i)
   {g sLen sCap:Nat} {cur:Array Value} (hg:w.heap[g]? =some (.cells cur tyb (0,0)))
   {a:Addr} {m c:Nat} {news:List Value} (hl:news.length=m*i.size) (hnews:∀j u,news[j]? =some u→w.cell? (a.add j)=some u) (h1:∀u∈news,u.oneCell'=true)
   (hroom:sLen+m≤sCap) (hfit:sLen*i.size+news.length≤cur.size):
   (Builtin.append_ #[t,t] ty #[.slice (some ⟨g,0,none⟩) sLen sCap,.slice (some a) m c]).run P w=
     .ok (.slice (some ⟨g,0,none⟩) (sLen+m) sCap) (w.setRow g (cur.toList.take (sLen*i.size)++news++cur.toList.drop (sLen*i.size+news.length)).toArray):=by
 have hf:=run_firstCells_some (P:=P) w i.size m a m c news hl hnews;have hst:=run_storeCells_at P g (sLen*i.size) tyb news 0 cur w hg (by simpa using hfit) h1;simp only[Nat.add_zero]at hst;simp[Builtin.append_,Zc ht,sizeOf,typeInfo,hi,Builtin.lenOf,hroom,hf,Addr.add_lit,hst]
theorem RB{c:Ctx}{H:Heap}{n:Nat}{w:World}(hs:Sim c H n w):Sim c H n w.drew:=hs.sameHeap rfl
theorem R6{c : Ctx}{H : Heap}{n : Nat}{w w' : World}(hs : Sim c H n w){k ver esz : Nat}{els : List AV}(hk : H k = some (.arr ver esz els))(hh : w'.heap = w.heap)(hos : w'.os = w.os)(hta : w'.tape = w.tape)(hou : w'.output = w.output)
   (arr:Array Value) (ty:TypeId) (cap:Nat) (els':List AV) (ds:List Value)
   (hz:∀x∈els',x.sz=esz) (hcap:els'.length≤cap) (hsz:arr.size=cap*esz) (hr:RelF c els' ds) (ha:At arr 0 ds):
   Step c H w (c.addLoc k (ver+1) (.blk w.heap.size cap esz)) (H.put k (some (.arr (ver+1) esz els'))) n (w'.alloc (.cells arr ty)):=by
 have hkn:k<n:=by
   rcases Nat.lt_or_ge k n with h | h
   ·exact h
   ·have:=(hs.fresh k h).1;rw[hk]at this;simp at this
 have hv:c.ρ k (ver+1)=none:=hs.vers k _ _ hk (Nat.lt_succ_self _);have old:∀b,b<w.heap.size→(w'.alloc (.cells arr ty)).heap[b]? =w.heap[b]? :=fun b hb=>by
   show(w'.heap.push _)[b]? =_;rw[hh,Array.getElem?_push,if_neg om]
 refine Step.renew (n':=n) hs k (.arr (ver+1) esz els') (.blk w.heap.size cap esz) (Nat.le_refl _) hkn hv (fun v h=>hs.vers k _ _ hk (Nat.lt_of_succ_lt h)) ⟨hos,hta,hou,?_,fun b hb _=>old b hb⟩ ?_ ?_ ?_ ?_
 ·show w.heap.size≤(w'.heap.push _).size;rw[hh];simp
 ·intro k' o' b _ hk' hb;exact old b ((hs.own k' o' hk').lt hb)
 ·intro b a hb;obtain⟨t,fr,hx⟩:=hs.ro b a hb;refine old b ?_;rcases Nat.lt_or_ge b w.heap.size with h | h
  ·exact h
  ·rw[Array.getElem?_eq_none h]at hx;simp at hx
 ·simp only[ZR];refine⟨_,Rn,rfl,hz,hcap,arr,ty,ds,?_,hsz,RelF.mono (Rx hv) _ _ hr,ha⟩;show(w'.heap.push _)[w.heap.size]? =_;rw[hh];simp
 ·intro b cap' e hl;cases hl;exact⟨hs.ro_size (Nat.le_refl _),.inl (Nat.le_refl _)⟩
theorem ot_append{P : Program}{H : Heap}{n : Nat}{dst : Option Tmp}{t : TypeId}{x y : Operand}{ty : TypeId}{pos : String}{after : Array Edge}{guard : Option (Nat × Bool)}{ε : Operand → AV}
   {C:Prop} {r:AV} {H':Heap} {n':Nat} {K:ARes→Heap→Nat→Prop}
   (h:Na P H n t (ε x) (ε y)=some (C,r,H',n')) (hC:C) (V:K (.val r) H' n'):OpT P ⟨dst,.call ⟨.builtin .append,#[x,y],#[t,t]⟩,ty,pos,after,guard⟩ ε H n K:=
 OpT.of_run fun c w ρv hs hr=>by
   have hx:=hr x (by simp[Op.operands,Call.operands]);have hy:=hr y (by simp[Op.operands,Call.operands]);have hexec:∀v w',(Builtin.append_ #[t,t] ty #[ρv x,ρv y]).run P w= .ok v w'→(execOp ρv ⟨dst,.call ⟨.builtin .append,#[x,y],#[t,t]⟩,ty,pos,after,guard⟩).run P w= .ok (.value v) w':=fun v w' hh=>by
     simp[execOp,resolve,invoke,builtin,hh]
   unfold Na at h;generalize ε x=xa at h hx;cases ht:tEl P t with
   | none=>rw[ht]at h;cases xa<;>simp[wApp2]at h
   | some sb=>
   obtain⟨s,by'⟩:=sb;cases hsl:slcO H (ε y)with
   | none=>rw[hsl,ht]at h;cases xa<;>simp[wApp2]at h
   | some q=>
   obtain⟨Cy,eo,ys⟩:=q;rw[hsl,ht]at h;obtain⟨e,i,z,hu,hi,hz,hzs,hpos,hsz,hby⟩:=UO ht;cases xa<;>simp only[wApp2]at h<;>try (simp at h;done)
   ·
     simp only[Option.some.injEq,Prod.mk.injEq]at h;obtain⟨rfl,rfl,rfl,rfl⟩:=h;obtain⟨c1,c2,c3,c4⟩:=hC;obtain⟨a,cap,ds,ev,hrf,hzz,hcase⟩:=JA hs hy hsl c1;simp only[Rel,List.cons.injEq,and_true]at hx;have hyz:∀u∈ys,u.sz=s:=fun u hu=>by
       rcases c2 with c2 | c2
       ·
         subst c2;unfold slcO at hsl;split at hsl
         ·simp at hsl;rw[hsl.2]at hu;simp at hu
         ·simp at hsl
         ·unfold slcO.slcA at hsl;split at hsl<;>simp at hsl
         ·simp at hsl
       ·exact hzz u hu s c2
     have hdl:ds.length=ys.length*i.size:=by rw[(RelF.len _ _ hrf).1,Rp hyz,hsz]
     by_cases h0:ys=[]
     ·subst h0;refine⟨_,.slice none 0 0,c,_,_,w,.inl (hexec _ _ ?_),.refl hs,?_,V⟩
      ·rw[hx,ev];exact X0 hu hi none a 0 0 cap (Nat.le_refl _)
      ·simp only[Rel];exact⟨none,0,osi,osi,osi,osi⟩
     ·obtain⟨ad,rfl,hcells⟩:=hcase.resolve_left (fun h=>h0 h.2);have hlen:0<ys.length:=List.length_pos_iff.2 h0;have hrun:=run_append_nil (P:=P) w t ty e i z hu hi hz ad ys.length cap ds hdl hcells hlen om (by rw[hby];omega);have hst:=Sk (H:=H) (n:=n) (RB hs) (ds.toArray++Builtin.zeroCells z.cells (grownCap w ys.length 0 e-ys.length)) e;refine⟨_,_,_,_,_,_,.inl (hexec _ _ (by rw[hx,ev];exact hrun)),(Step.drew hs).trans hst,?_,V⟩;simp only[Rel];refine⟨_,grownCap w ys.length 0 e,rfl,grownCap_ge _ _ _ _,hyz,.inr ⟨w.heap.size,0,_,ds,rfl,by simp[Ctx.addRo];rfl,RelF.mono hst.le _ _ hrf,At.zero.2 ⟨(Builtin.zeroCells z.cells (grownCap w ys.length 0 e-ys.length)).toList,osi⟩⟩⟩
   ·
     rename_i k ver off len;unfold wAppA at h;split at h
     ·rename_i ver' esz els hk;simp only[Option.some.injEq,Prod.mk.injEq]at h;obtain⟨rfl,rfl,rfl,rfl⟩:=h;obtain⟨d1,d2,d3,d4,c1,c2,c3,c4⟩:=hC;subst d1;subst d2;subst d4;obtain⟨a,cap,ds,ev,hrf,hzz,hcase⟩:=JA hs hy hsl c1;have hyz:∀u∈ys,u.sz=esz:=fun u hu=>by
        rcases c2 with c2 | c2
        ·subst c2;unfold slcO at hsl;split at hsl
         ·simp at hsl;rw[hsl.2]at hu;simp at hu
         ·simp at hsl
         ·unfold slcO.slcA at hsl;split at hsl<;>simp at hsl
         ·simp at hsl
        ·exact hzz u hu _ c2
      have hdl:ds.length=ys.length*i.size:=by rw[(RelF.len _ _ hrf).1,Rp hyz,hsz]
      simp only[Rel,List.cons.injEq,and_true]at hx;obtain⟨l,hl,hm⟩:=hx;have ho:=hs.own k _ hk;simp only[ZR]at ho;obtain⟨l',hl',hm'⟩:=ho;rw[hl]at hl';cases hl';have hkn:k<n:=by
        rcases Nat.lt_or_ge k n with h | h
        ·exact h
        ·have:=(hs.fresh k h).1;rw[hk]at this;simp at this
      have hv:c.ρ k (ver+1)=none:=hs.vers k _ _ hk (Nat.lt_succ_self _);have helems:∀u∈els.take len++ys,u.sz=esz:=fun u hu=>by
        rcases List.mem_append.1 hu with h | h
        ·cases l with
         | nil=>simp only at hm';subst hm';simp at h
         | blk b cp e'=>exact hm'.2.1 u (List.mem_of_mem_take h)
        ·exact hyz u h
      have hlen':(els.take len++ys).length=len+ys.length:=oz
      have again : ∀ (l2 : Loc) (w' : World), l2 = l → Fr (Rh c H) w w' → (∀ k' o' b, k' ≠ k → H k' = some o' → Zm c k' o' = some b → w'.heap[b]? = w.heap[b]?) → (∀ b a, c.ro b = some a → w'.heap[b]? = w.heap[b]?) →
          ZR (c.addLoc k (ver+1) l2) k w' (.arr (ver+1) esz (els.take len++ys))→Step c H w (c.addLoc k (ver+1) l2) (H.put k (some (.arr (ver+1) esz (els.take len++ys)))) n w':=fun l2 w' e hf h1 h2 h3=>by
        refine Step.renew (n':=n) hs k (.arr (ver+1) esz (els.take len++ys)) l2 (Nat.le_refl _) hkn hv (fun v h=>hs.vers k _ _ hk (Nat.lt_of_succ_lt h)) hf h1 h2 h3 ?_;intro b cp e' he;subst e;have hbo:Zm c k (.arr ver esz els)=some b:=by simp[Zm,AObj.ver,hl,he]
        exact⟨hs.sep k _ b hk hbo,.inr ⟨_,hk,hbo⟩⟩
      cases l with
      | nil=>
        obtain⟨_,h2,evx⟩:=hm;simp only at hm';subst h2;subst hm';by_cases h0:ys=[]
        ·subst h0;refine⟨_,.slice none 0 0,_,_,_,w,.inl (hexec _ _ (by rw[evx,ev];exact X0 hu hi none a 0 0 cap (Nat.le_refl _))),again .nil w rfl (.refl _ _) (fun _ _ _ _ _ _=>rfl) (fun _ _ _=>rfl) ?_,?_,V⟩
         ·simp only[ZR];exact⟨.nil,Rn,osi⟩
         ·simp only[Rel];exact⟨.nil,Rn,osi⟩
        ·obtain⟨ad,rfl,hcells⟩:=hcase.resolve_left (fun h=>h0 h.2);have hlen:0<ys.length:=List.length_pos_iff.2 h0;have hrun:=run_append_nil (P:=P) w t ty e i z hu hi hz ad ys.length cap ds hdl hcells hlen om (by rw[hby];simp only[Nat.zero_add]at c3;omega);have hgc:=grownCap_ge w ys.length 0 e
         have hst:=R6 (w':=w.drew) hs hk rfl rfl rfl rfl (ds.toArray++Builtin.zeroCells z.cells (grownCap w ys.length 0 e-ys.length)) e (grownCap w ys.length 0 e) (([]:List AV).take 0++ys) ds
           (by simpa using hyz) (by simpa using hgc) (by simp only[Array.size_append,List.size_toArray,size_zeroCells,hzs,hdl,hsz];rw[←Nat.add_mul];congr 1;omega) (by simpa using hrf) (At.zero.2 ⟨_,by simp;rfl⟩)
         refine⟨_,_,_,_,_,_,.inl (hexec _ _ (by rw[evx,ev];exact hrun)),hst,?_,V⟩;simp only[Rel];exact⟨_,Rn,grownCap w ys.length 0 e,0,by simpa using hgc,osi,.inr osi,osi⟩
      | blk b cp e'=>
        obtain⟨cp',o',h1,h2,h3,evx⟩:=hm;obtain⟨he,hze,hcl,arr,tyb,dss,hb,hasz,hrfe,ha⟩:=hm';subst he;have hsplit:els=els.take len++els.drop len:=(List.take_append_drop _ _).symm;rw[hsplit]at hrfe;obtain⟨olds,rst,ed,hro,hrr⟩:=RelF.append.1 hrfe;have hol:olds.length=len*i.size:=by
          rw[(RelF.len _ _ hro).1,Rp (fun x hx=>hze x (List.mem_of_mem_take hx)),qk,Nat.min_eq_left d3,hsz]
        subst ed;obtain⟨post,hp⟩:=At.zero.1 ha;have holds:∀j v,olds[j]? =some v→w.cell? ((⟨b,0,none⟩:Addr).add j)=some v:=fun j v hj=>by
          rw[Addr.add_plain,Nat.zero_add];simp only[World.cell?,hb];have:=(At.append.1 ha).1 j v hj;simpa using this
        have hbo:Zm c k (.arr ver e' els)=some b:=by simp[Zm,AObj.ver,hl]
        by_cases h0:ys=[]
        ·subst h0;refine⟨_,.slice (some ⟨b,o',none⟩) len cp',_,_,_,w,.inl (hexec _ _ (by rw[evx,ev];exact X0 hu hi _ a len cp' cap h1)),again (.blk b cp e') w rfl (.refl _ _) (fun _ _ _ _ _ _=>rfl) (fun _ _ _=>rfl) ?_,?_,V⟩
         ·simp only[ZR];refine⟨_,Rn,rfl,helems,oz,arr,tyb,olds,hb,hasz,RelF.mono (Rx hv) _ _ (by simpa using hro),At.zero.2 ⟨rst++post,by rw[hp];simp⟩⟩
         ·simp only[Rel];exact⟨_,Rn,cp',o',by simpa using h1,by simpa using h2,h3,osi⟩
        ·obtain⟨ad,rfl,hcells⟩:=hcase.resolve_left (fun h=>h0 h.2);have hlen:0<ys.length:=List.length_pos_iff.2 h0;by_cases hroom:len+ys.length≤cp'
         ·
           have eo':o'=0:=by rcases h3 with h3 | h3<;>omega
           subst eo';have hone:=(RelF.len _ _ hrf).2;have hsize:arr.size=arr.toList.length:=osi;have hfit:len*i.size+ds.length≤arr.size:=by
             rw[hdl,hasz,←Nat.add_mul,←hsz];exact Nat.mul_le_mul_right _ om
           have hrun:=run_append_room' (P:=P) (ty:=ty) (c:=cap) hu hi hb hdl hcells hone hroom hfit;have htake:arr.toList.take (len*i.size)=olds:=by rw[hp,←hol,qf,List.take_left]
           rw[htake]at hrun;have hwb:∀b' cs,b'≠b→(w.setRow b cs).heap[b']? =w.heap[b']? :=fun b' cs hb'=>setRow_other w b b' _ hb'
           refine⟨_,_,_,_,_,w.setRow b (olds++ds++List.drop (len*i.size+ds.length) arr.toList).toArray,.inl (hexec _ _ (by rw[evx,ev];exact hrun)),again (.blk b cp e') (w.setRow b (olds++ds++List.drop (len*i.size+ds.length) arr.toList).toArray) rfl ⟨rfl,rfl,rfl,by simp[World.setRow],fun b' _ hS=>hwb b' _ fun e=>hS ⟨k,_,hk,by rw[e];exact hbo⟩⟩
             (fun k'' o'' b' hne hk' hb'=>hwb b' _ fun e=>hne (hs.inj k'' k o'' _ b hk' hk (by rw[←e];exact hb') hbo))
             (fun b' a' hb'=>hwb b' _ fun e=>by have:=hs.sep k _ b hk hbo;rw[←e,hb']at this;simp at this) ?_,?_,V⟩
           ·simp only[ZR];refine⟨_,Rn,rfl,helems,by rw[hlen'];omega,_,tyb,olds++ds,setRow_heap w b arr _ tyb _ hb,?_,RelF.mono (Rx hv) _ _ (RelF.append.2 ⟨_,_,rfl,hro,hrf⟩),At.zero.2 ⟨arr.toList.drop (len*i.size+ds.length),osi⟩⟩
            ·rw[←hasz];simp only[List.size_toArray,qe,List.length_drop,hol,Array.length_toList];omega
           ·simp only[Rel];exact⟨_,Rn,cp',0,hroom,by simpa using h2,.inr osi,rfl⟩
         ·
           have hrunG:∀bb:Addr,(∀j v,olds[j]? =some v→w.cell? (bb.add j)=some v)→(Builtin.append_ #[t,t] ty #[.slice (some bb) len cp',.slice (some ad) ys.length cap]).run P w=_:=fun bb hbb=>
             run_append_grow (P:=P) w t ty e i z hu hi hz bb len cp' olds hol hbb ad ys.length cap ds hdl hcells om om (growslice_fits om (by rw[hby];exact c3))
           have hgc:=grownCap_ge w (len+ys.length) cp' e
           have hst:=R6 (w':=w.drew) hs hk rfl rfl rfl rfl (olds.toArray++ds.toArray++Builtin.zeroCells z.cells (grownCap w (len+ys.length) cp' e-(len+ys.length))) e (grownCap w (len+ys.length) cp' e) (els.take len++ys) (olds++ds)
             helems (by rw[hlen'];exact hgc) (by simp only[Array.size_append,List.size_toArray,size_zeroCells,hzs,hol,hdl,hsz];rw[←Nat.add_mul,←Nat.add_mul];congr 1;omega) (RelF.append.2 ⟨_,_,rfl,hro,hrf⟩) (At.zero.2 ⟨_,by simp;rfl⟩)
           have hbb:∀j v,olds[j]? =some v→w.cell? ((⟨b,o',none⟩:Addr).add j)=some v:=by
             rcases h3 with h3 | h3
             ·have:len=0:=om;have:olds=[]:=List.eq_nil_of_length_eq_zero (by rw[hol,this];simp);subst this;intro j v hj;simp at hj
             ·rw[h3,Nat.zero_mul];exact holds
           refine⟨_,_,_,_,_,_,.inl (hexec _ _ (by rw[evx,ev];exact hrunG _ hbb)),hst,?_,V⟩;simp only[Rel];exact⟨_,Rn,grownCap w (len+ys.length) cp' e,0,hgc,osi,.inr osi,rfl⟩
     ·simp at h
def UL(P:Program)(H:Heap)(n:Nat)(t:TypeId):Option AV→Option (Prop×AV×Heap×Nat)
 | none=>some (True,.omap n,H.put n (some (.map [])),n+1)
 | some (.int _ _)=>some ((tMap P t).isSome=true,.omap n,H.put n (some (.map [])),n+1)
 | _=>none
theorem Sd{c : Ctx}{H : Heap}{n : Nat}{w : World}(hs : Sim c H n w):
   Step c H w (c.addLoc n 0 (.blk w.heap.size 0 0)) (H.put n (some (.map []))) (n+1) (w.alloc (.map #[] 0)):=by
 have hf:=hs.fresh n (Nat.le_refl _);refine Step.renew (n':=n+1) hs n (.map []) (.blk w.heap.size 0 0) om om (hf.2 0) (fun v _=>hf.2 v) (.alloc _ _ _) ?_ ?_ ?_ ?_
 ·intro k' o' b _ hk' hb;have:=(hs.own k' o' hk').lt hb;show(w.heap.push _)[b]? =_;rw[Array.getElem?_push,if_neg om]
 ·intro b a hb;have:b<w.heap.size:=by
    obtain⟨t,fr,hx⟩:=hs.ro b a hb;exact kaX
  show(w.heap.push _)[b]? =_;rw[Array.getElem?_push,if_neg om]
 ·simp only[ZR];exact⟨_,_,_,#[],0,Rn,UB,by simp[RelM]⟩
 ·intro b cap' e hl;cases hl;exact⟨hs.ro_size (Nat.le_refl _),.inl (Nat.le_refl _)⟩
theorem ot_makeMap{P : Program}{H : Heap}{n : Nat}{dst : Option Tmp}{t : TypeId}{r0 : Option Operand}{ty : TypeId}{pos : String}{after : Array Edge}{guard : Option (Nat × Bool)}{ε : Operand → AV}
   {C:Prop} {r:AV} {H':Heap} {n':Nat} {K:ARes→Heap→Nat→Prop}
   (h:UL P H n t (r0.map ε)=some (C,r,H',n')) (hC:C) (V:K (.val r) H' n'):OpT P ⟨dst,.makeMap t r0,ty,pos,after,guard⟩ ε H n K:=
 OpT.of_run fun c w ρv hs hr=>by
   cases r0 with
   | none=>
     simp only[Option.map_none,UL,Option.some.injEq,Prod.mk.injEq]at h;obtain⟨rfl,rfl,rfl,rfl⟩:=h;refine⟨_,.map (some w.heap.size),_,_,_,w.alloc (.map #[] 0),.inl (by simp[execOp,Instr.makeMap]),Sd hs,?_,V⟩;simp only[Rel];exact⟨_,_,_,Rn,rfl⟩
   | some x=>
     have hx:=hr x (by simp[Op.operands]);simp only[Option.map_some]at h;generalize ε x=xa at h hx;cases xa<;>simp only[UL]at h<;>try (simp at h;done)
     simp only[Option.some.injEq,Prod.mk.injEq]at h;obtain⟨rfl,rfl,rfl,rfl⟩:=h;obtain⟨de,hde⟩:=Option.isSome_iff_exists.1 hC;obtain⟨d,et⟩:=de;obtain⟨kt,hu,hd⟩:=LB hde;simp only[Rel,List.cons.injEq,and_true]at hx;refine⟨_,.map (some w.heap.size),_,_,_,w.alloc (.map #[] 0),.inl (by simp[execOp,Instr.makeMap,Zc hu,hx,asInt,asIntOf]),Sd hs,?_,V⟩;simp only[Rel];exact⟨_,_,_,Rn,rfl⟩
def setK:List (AV×AV)→AV→AV→List (AV×AV)
 | [],k,v=>[(k,v)]
 | (a,x)::es,k,v=>bif Qm k a then(a,v)::es else(a,x)::setK es k v
theorem setK_rel{c : Ctx}{d : TypeDesc}{k v : AV}{kv vv : Value}(hk : k.isKey d = true)(h : Rel c k false [kv])(hv : Rel c v false [vv])(clock : Nat): ∀ (es : List (AV × AV)) (l : List MapEntry) (i : Nat), RelM c es l → (∀ e ∈ es, e.1.isKey d = true) →
   (Instr.findNow d kv l i=some none∧RelM c (setK es k v) (l++[⟨kv,vv,clock⟩]))∨
     ∃j e,Instr.findNow d kv l i=some (some (i+j,e.val))∧l[j]? =some e∧e.key=kv∧RelM c (setK es k v) (l.modify j fun e=>{e with key:=kv,val:=vv})
 | [],l,i,hr,_=>by
   simp only[RelM]at hr;subst hr;exact .inl ⟨rfl,by simp only[setK,RelM];exact⟨_,[],rfl,h,hv,rfl⟩⟩
 | (a,x)::es,l,i,hr,hks=>by
   simp only[RelM]at hr;obtain⟨e,r,rfl,h1,h2,h3⟩:=hr;have hka:=hks (a,x) osi;have hs:=MB hk hka h h1;cases hb:Qm k a with
   | true=>
     obtain⟨r',hr',hiff⟩:=MapKept.sameNow_of_keys (VI hk h) (VI hka h1);rw[hs,hb]at hr';cases hr';have ek:=(hiff.1 rfl).symm;refine .inr ⟨0,e,by simp[Instr.findNow,hs,hb],rfl,ek,?_⟩;simp only[setK,hb,cond_true,List.modify_zero_cons,RelM];exact⟨_,_,rfl,by rw[←ek];exact h1,hv,h3⟩
   | false=>
     rcases setK_rel hk h hv clock es r (i+1) h3 (fun e he=>hks e (by simp[he]))with⟨h4,h5⟩ | ⟨j,e',h4,h5,h6,h7⟩
     ·refine .inl ⟨by simp[Instr.findNow,hs,hb,h4],?_⟩;simp only[setK,hb,cond_false,List.cons_append,RelM];exact⟨_,_,rfl,h1,h2,h5⟩
     ·refine .inr ⟨j+1,e',by simp[Instr.findNow,hs,hb,h4];omega,by simpa using h5,h6,?_⟩;simp only[setK,hb,cond_false,List.modify_succ_cons,RelM];exact⟨_,_,rfl,h1,h2,h7⟩
def M9(P:Program)(H:Heap)(n k:Nat)(key v:AV)(es:List (AV×AV)):Option (TypeDesc×TypeId)→Option (Prop×AV×Heap×Nat)
 | some (d,_)=>some (key.isKey d=true∧(∀e∈es,e.1.isKey d=true),.junk,H.put k (some (.map (setK es key v))),n)
 | none=>none
def wMapUpO(P:Program)(H:Heap)(n k:Nat)(t:TypeId)(key v:AV):Option AObj→Option (Prop×AV×Heap×Nat)
 | some (.map es)=>M9 P H n k key v es (tMap P t)
 | _=>none
def wMapUp(P:Program)(H:Heap)(n:Nat)(t:TypeId)(key v:AV):AV→Option (Prop×AV×Heap×Nat)
 | .omap k=>wMapUpO P H n k t key v (H k)
 | _=>none
theorem Sb{c : Ctx}{H : Heap}{n : Nat}{w : World}(hs : Sim c H n w){k b cap e : Nat}{es es' : List (AV × AV)}(hk : H k = some (.map es))(hl : c.ρ k 0 = some (.blk b cap e)){l : Array MapEntry}{clock : Nat}{l' : Array MapEntry}{clock' : Nat}
   (hb:w.heap[b]? =some (.map l clock)) (hr:RelM c es' l'.toList):Step c H w c (H.put k (some (.map es'))) n {w with heap:=w.heap.setIfInBounds b (.map l' clock')}:=by
 have hbo:Zm c k (.map es)=some b:=by simp[Zm,AObj.ver,hl]
 obtain⟨hself,hother⟩:=MapKept.heap_set (o':= .map l' clock') hb
 refine Step.write hs k _ (.map es') hk rfl ⟨rfl,rfl,rfl,osi,fun b' _ hS=>hother b' fun e=>hS ⟨k,_,hk,by rw[e];exact hbo⟩⟩
   (fun k' o' b' hne hk' hb'=>hother b' fun e=>hne (hs.inj k' k o' _ b hk' hk (by rw[←e];exact hb') hbo))
   (fun b' a' hb'=>hother b' fun e=>by have:=hs.sep k _ b hk hbo;rw[←e,hb']at this;simp at this) ?_
 simp only[ZR];exact⟨b,cap,e,l',clock',hl,hself,hr⟩
theorem ot_mapUp{P : Program}{H : Heap}{n : Nat}{dst : Option Tmp}{t : TypeId}{m key v : Operand}{ty : TypeId}{pos : String}{after : Array Edge}{guard : Option (Nat × Bool)}{ε : Operand → AV}
   {C:Prop} {r:AV} {H':Heap} {n':Nat} {K:ARes→Heap→Nat→Prop}
   (h:wMapUp P H n t (ε key) (ε v) (ε m)=some (C,r,H',n')) (hC:C) (V:K (.val r) H' n'):OpT P ⟨dst,.mapUpdate t m key v,ty,pos,after,guard⟩ ε H n K:=
 OpT.of_run fun c w ρv hs hr=>by
   have hm:=hr m (by simp[Op.operands]);have hkr:=hr key (by simp[Op.operands]);have hvr:=hr v (by simp[Op.operands]);generalize ε m=ma at h hm;generalize ε key=ka at h hkr;generalize ε v=va at h hvr;cases ma<;>simp only[wMapUp]at h<;>try (simp at h;done)
   rename_i k;unfold wMapUpO at h;split at h
   ·rename_i es hk;cases ht:tMap P t with
    | none=>rw[ht]at h;simp[M9]at h
    | some de=>
      obtain⟨d,et⟩:=de;rw[ht]at h;simp only[M9,Option.some.injEq,Prod.mk.injEq]at h;obtain⟨rfl,rfl,rfl,rfl⟩:=h;obtain⟨kt,hu,hd⟩:=LB ht;simp only[Rel,List.cons.injEq,and_true]at hm;obtain⟨b,cap,esz,hl,ev⟩:=hm;have ho:=hs.own k _ hk;simp only[ZR]at ho;obtain⟨b',cap',e',l,clock,hl',hb,hrm⟩:=ho;rw[hl]at hl';cases hl';have hkey:=VI hC.1 hkr;have hck:=MapKept.run_checkKey (P:=P) (w:=w) hd hkey false 9999;rcases setK_rel hC.1 hkr hvr clock es l.toList 0 hrm hC.2 with⟨h1,h2⟩ | ⟨j,e,h1,h2,h3,h4⟩
      ·refine⟨.junk,undef,c,_,n,_,.inr ⟨?_,rfl⟩,Sb hs hk hl hb (l':=l.push ⟨ρv key,ρv v,clock⟩) (clock':=clock+1) (by simpa using h2),by simp[Rel],V⟩;simp[execOp,ev,Instr.mapUpdate,Zc hu,MapKept.run_getObj_map hb,hck,MapKept.run_findKey hd h1,MapKept.run_setObj_map _ hb,Result.andThen]
      ·have hj:l[j]? =some e:=by simpa using h2
       refine⟨.junk,undef,c,_,n,_,.inr ⟨?_,rfl⟩,Sb hs hk hl hb (l':=l.modify j fun e=>{e with key:=ρv key,val:=ρv v}) (clock':=clock) (by simpa using h4),by simp[Rel],V⟩;simp[execOp,ev,Instr.mapUpdate,Zc hu,MapKept.run_getObj_map hb,hck,MapKept.run_findKey hd h1,hj,h3,MapKept.run_keyThatStays hkey,MapKept.run_setObj_map _ hb,Result.andThen]
   ·simp at h
def wBSl(P:Program)(H:Heap)(n:Nat)(t:TypeId)(len:Nat)(idx:List Nat)(xs:List AV):Option (Prop×AV×Heap×Nat):=
 match tEl P t with
 | some (s,_)=>some (len=xs.length∧idx.length=xs.length∧Qh 0 idx=true∧len*s≤2^24∧(∀x∈xs,x.sz=s∧x.memOK=true),.osl n 0 0 len,H.put n (some (.arr 0 s xs)),n+1)
 | none=>none
theorem ot_buildSlice{P : Program}{H : Heap}{n : Nat}{dst : Option Tmp}{t : TypeId}{len : Nat}{ps : Array (Nat × Operand)}{ty : TypeId}{pos : String}{after : Array Edge}{guard : Option (Nat × Bool)}{ε : Operand → AV}
   {C:Prop} {r:AV} {H':Heap} {n':Nat} {K:ARes→Heap→Nat→Prop}
   (h:wBSl P H n t len (ps.toList.map (·.1)) (ps.toList.map fun p=>ε p.2)=some (C,r,H',n')) (hC:C) (V:K (.val r) H' n'):OpT P ⟨dst,.buildSlice t len ps,ty,pos,after,guard⟩ ε H n K:=
 OpT.of_run fun c w ρv hs hr=>by
 unfold wBSl at h;split at h
 ·rename_i s bb ht;simp only[Option.some.injEq,Prod.mk.injEq]at h;obtain⟨rfl,rfl,rfl,rfl⟩:=h;obtain⟨e1,e2,e3,e5,e6⟩:=hC;obtain⟨e,i,z,hu,hi,hz,hzs,hpos,hsz,_⟩:=UO ht;obtain⟨ps⟩:=ps;simp only at e1 e2 e3 e6;have hT:RelT c (ps.map fun p=>ε p.2) (ps.map fun p=>ρv p.2):=by
    exact kaL
  obtain⟨hF,hsizes⟩:=RU _ _ hT (fun x hx=>(e6 x hx).2);have hvs:∀v∈(ps.map fun p=>ρv p.2),v.cells.size=s:=fun v hv=>by
    exact kaI
  have hl:len=ps.length:=by simpa using e1
  obtain⟨arr,ha,hal⟩:=Pt s (ps.map fun p=>ρv p.2) 0 [] ((List.range (len*s)).map (z.cells[· %z.cells.size]!)) osi (by simp[hl]) hvs;have hzip:(List.range' 0 (ps.map fun p=>ρv p.2).length).zip (ps.map fun p=>ρv p.2)=ps.map fun p=>(p.1,ρv p.2):=by
    exact kbU
  rw[hzip]at ha;have hds:=(RelF.len _ _ hF).1;rw[Rp (fun x hx=>(e6 x hx).1)]at hds;have hsz2:arr.size=len*s:=by
    have h1:arr.toList=((ps.map fun p=>ρv p.2).flatMap fun v=>v.cells.toList):=by simpa using hal
    have h2:arr.size=arr.toList.length:=osi;rw[h2,h1,hds,e1]
  refine⟨_,.slice (some ⟨w.heap.size,0,none⟩) len len,_,_,_,w.alloc (.cells arr e),.inl ?_,Ry hs arr e len s _ _ (fun x hx=>(e6 x hx).1) (by rw[←e1];exact Nat.le_refl _) hsz2 hF (At.self (by simpa using hal)),?_,V⟩
  ·by_cases e4:len=0
   ·have hps:ps=[]:=List.eq_nil_of_length_eq_zero om;subst hps;subst e4;have harr:arr= #[]:=Array.eq_empty_of_size_eq_zero om;subst harr;have hrun:(Instr.buildSlice t 0 #[]).run P w= .ok (.slice (some ⟨w.heap.size,0,none⟩) 0 0) (w.alloc (.cells #[] e)):=by
      simp[Instr.buildSlice,Zc hu,ZU hi,Instr.fill,newRow,Array.range_zero']
    simp[execOp,hrun]
   ·have hne:¬len*i.size=0:=by rw[hsz];have:=Nat.mul_pos (Nat.pos_of_ne_zero e4) (hsz▸hpos);omega
    have hsm:¬len*i.size>2^24:=by rw[hsz];omega
    have hfill:Instr.fill (fun j=>some (j*i.size,i.size)) ((Array.range (len*i.size)).map (z.cells[· %z.cells.size]!)) ((ps.map fun p=>(p.1,ρv p.2)).toArray).toList=some arr:=by
      exact kbg
    have hrun:(Instr.buildSlice t len (ps.map fun p=>(p.1,ρv p.2)).toArray).run P w= .ok (.slice (some ⟨w.heap.size,0,none⟩) len len) (w.alloc (.cells arr e)):=by
      exact ka3
    simp[execOp,hrun]
  ·simp only[Rel];exact⟨_,Rn,len,0,Nat.le_refl _,om,.inr osi,rfl⟩
 ·simp at h
def Lu(P:Program)(H:Heap)(n:Nat)(s d:TypeId)(k ver off len:Nat):Option AObj→Option (Prop×AV×Heap×Nat)
 | some (.arr ver' e els)=>some (s=d∧Wo P s=true∧ver'=ver∧off=0∧len=els.length∧0<els.length,.sl e els,H.put k none,n)
 | _=>none
def wConv(P:Program)(H:Heap)(n:Nat)(s d:TypeId):AV→Option (Prop×AV×Heap×Nat)
 | .osl k ver off len=>Lu P H n s d k ver off len (H k)
 | _=>none
theorem Sim.fringe{c : Ctx}{H : Heap}{n : Nat}{w : World}(h : Sim c H n w){b : Nat}{a : Array Value}{ty : TypeId}{fr fr' : Nat × Nat}(hb : c.ro b = some a)(hw : w.heap[b]? = some (.cells a ty fr)):
   Sim c H n {w with heap:=w.heap.setIfInBounds b (.cells a ty fr')}:=by
 have hlt:b<w.heap.size:=by
   exact kcr
 have hself:(w.heap.setIfInBounds b (.cells a ty fr'))[b]? =some (.cells a ty fr'):=by simp[hlt]
 have hother:∀j,j≠b→(w.heap.setIfInBounds b (.cells a ty fr'))[j]? =w.heap[j]? :=fun j hj=>by
   rw[Array.getElem?_setIfInBounds];rw[if_neg (Ne.symm hj)]
 exact{
   ro:=fun b' a' hb'=>by
     by_cases e:b'=b
     ·subst e;rw[hb]at hb';cases hb';exact⟨_,_,hself⟩
     ·show∃ty fr,(w.heap.setIfInBounds b _)[b']? =_;rw[hother b' e];exact h.ro b' a' hb'
   own:=fun k o hk=>(h.own k o hk).mono (.refl _) (fun b' hb'=>by
     have:b'≠b:=fun e=>by subst e;have:=h.sep k o b' hk hb';rw[hb]at this;simp at this
     exact hother b' this)
   sep:=h.sep
   inj:=h.inj
   fresh:=h.fresh
   vers:=h.vers}
theorem modify_set{a:Array Obj}{i:Nat}{x:Obj}{f:Obj→Obj}(h:a[i]? =some x):a.modify i f=a.setIfInBounds i (f x):=by
 apply Array.ext_getElem?;intro j;rw[Array.getElem?_modify,Array.getElem?_setIfInBounds];by_cases e:i=j
 ·subst e;have hlt:i<a.size:=by
    rcases Nat.lt_or_ge i a.size with h' | h'
    ·exact h'
    ·rw[Array.getElem?_eq_none h']at h;simp at h
  have:a[i]=x:=by rw[Array.getElem?_eq_getElem hlt]at h;simpa using h
  simp[hlt,this]
 ·simp[e]
theorem ot_conv{P : Program}{H : Heap}{n : Nat}{dst : Option Tmp}{s d : TypeId}{x : Operand}{ty : TypeId}{pos : String}{after : Array Edge}{guard : Option (Nat × Bool)}{ε : Operand → AV}
   {C:Prop} {r:AV} {H':Heap} {n':Nat} {K:ARes→Heap→Nat→Prop}
   (h:wConv P H n s d (ε x)=some (C,r,H',n')) (hC:C) (V:K (.val r) H' n'):OpT P ⟨dst,.convert s d x,ty,pos,after,guard⟩ ε H n K:=
 OpT.of_run fun c w ρv hs hr=>by
   have hx:=hr x (by simp[Op.operands]);generalize ε x=xa at h hx;cases xa<;>simp only[wConv]at h<;>try (simp at h;done)
   rename_i k ver off len;cases hk:H k with
   | none=>rw[hk]at h;simp[Lu]at h
   | some o=>
     cases o with
     | map es=>rw[hk]at h;simp[Lu]at h
     | glob e els=>rw[hk]at h;simp[Lu]at h
     | arr ver' e els=>
       rw[hk]at h;simp only[Lu,Option.some.injEq,Prod.mk.injEq]at h;obtain⟨rfl,rfl,rfl,rfl⟩:=h;obtain⟨rfl,hby,rfl,rfl,rfl,hpos⟩:=hC;obtain⟨el,hu,he⟩:=VN hby;obtain⟨c',hst,hfz,_⟩:=Step.freeze hs k ver' e els hk;have hrel:=hfz 0 els.length (ρv x) om hx;have ho:=hs.own k _ hk;simp only[ZR]at ho;obtain⟨l,hl,hm⟩:=ho;have hx':=hx;simp only[Rel]at hx';obtain⟨l',hl',hmm⟩:=hx';rw[hl]at hl';cases hl';cases l with
       | nil=>have:els=[]:=hm;subst this;simp at hpos
       | blk b cap e'=>
         obtain⟨he',hz,hc,arr,tty,ds,hb,hsz,hrf,ha⟩:=hm;obtain⟨cp,o',h1,h2,h3,ev⟩:=hmm;have ev:ρv x= .slice (some ⟨b,o',none⟩) els.length cp:=by simpa using ev
         have hbo:Zm c k (.arr ver' e els)=some b:=by simp[Zm,AObj.ver,hl]
         rw[List.drop_zero,List.take_length]at hrel;have hro:c'.ro b=some arr:=by
           have hrel2:=hrel;rw[ev]at hrel2;simp only[Rel]at hrel2;obtain⟨a0,cap0,e0,_,_,h4⟩:=hrel2;rcases h4 with h4 | ⟨bb,off,arr',ds',e1,h5,_,_⟩
           ·subst h4;simp at hpos
           ·simp only[List.cons.injEq,and_true,Value.slice.injEq]at e0;obtain⟨e0,_,_⟩:=e0;rw[←e0]at e1;simp only[Option.some.injEq,Addr.mk.injEq,and_true]at e1;obtain⟨rfl,_⟩:=e1;obtain⟨ty2,fr2,hw2⟩:=hst.sim.ro b arr' h5;rw[hb]at hw2;simp only[Option.some.injEq,Obj.cells.injEq]at hw2;rw[h5,hw2.1]
         have hsh:w.shape? b=some (tty,arr.size):=by unfold World.shape?;rw[hb]
         refine⟨_,ρv x,c',H.put k none,n,{w with heap:=w.heap.setIfInBounds b (.cells arr tty (arr.size,arr.size+1))},.inl ?_,?_,hrel,V⟩
         ·have hfr : w.freeze ⟨b, arr.size, none⟩ 1 = { w with heap := w.heap.setIfInBounds b (.cells arr tty (arr.size, arr.size + 1)) } := by
            unfold World.freeze;rw[if_neg odc,modify_set hb];rfl
          simp[execOp,ev,convert,Zc hu,Zc he,markStringish,hsh,hfr]
         ·exact {
            le:=hst.le
            sim:=hst.sim.fringe hro hb
            fr:={
              os:=rfl
              tape:=rfl
              output:=rfl
              size:=osi
              keep:=fun b' hb' hS=>by
                have:b'≠b:=fun e=>hS ⟨k,_,hk,by rw[e];exact hbo⟩;show(w.heap.setIfInBounds b _)[b']? =_;rw[Array.getElem?_setIfInBounds,if_neg (Ne.symm this)]}
            new:=hst.new}
end Go.Sx