/- Own layer 'Sx', part M: steps that only retell: weaker words, nil slices that become owned, what is left frozen at a function's end. Of every program; no condition. -/
import Derived.Test.YtkmkbndcekklmaaGreatDoorPC
import Derived.Lib.BytesEntry
import Derived.Lib.Bytealg
import Derived.ChangeArms
import Derived.OpenShut
import Derived.ChangeOld
import Derived.JoinedCond
import Derived.WalkKit
import Derived.ProofKit
import Derived.Test.YtkmkbndcekklmaaGreatDoorRows
import Derived.Test.YtkmkbndcekklmaaGreatDoorPA
import Derived.Laws.Bits64
set_option linter.unusedSimpArgs false
set_option linter.unusedVariables false
namespace Go.Sx
open Go
section
variable {P:Program}{N:Nat}{code:Code}{T T':Nat→AV}{H H':Heap}{n n':Nat}{Q:QK}
theorem Vf(h:∀c w tmps,Sim c H n w→ZJ c T tmps→∃c',Step c H w c' H' n' w∧ZJ c' T' tmps)(hk:awp P N code T' H' n' Q):awp P N code T H n Q:=fun c w a hs hr hN ds hd=>by
 obtain⟨c',hst,hr'⟩:=h c w a.tmps hs hr;exact Go.wp_mono (hk c' w a hst.sim hr' hN ds hd) fun _ _ _ hp=>hp.step hst
end
theorem awp_seq_j{P : Program}{N : Nat}{x y : Code}{T : Nat → AV}{H : Heap}{n : Nat}{Q : QK}(J : KT)
   (h:awp P N x T H n (ZK J Q)) (hJ:∀T H n,J T H n→awp P N y T H n Q):awp P N (.seq x y) T H n Q:=
 JN (h.mono fun e T H n hq=>by cases e<;>first | exact hJ _ _ _ hq | exact hq)
theorem Uu{P:Program}{N:Nat}{x:Code}{T:Nat→AV}{H:Heap}{n:Nat}{Q:QK}(live:List Nat)(h:awp P N x T H n (ZK (fun T H n=>Q .normal (tsel live T) H n) Q)):awp P N x T H n Q:=fun c w a hs hr hN ds hd=>by
 refine Go.wp_mono (h c w a hs hr hN ds hd) ?_;rintro e a' w' ⟨ae,c',T',H',n',hQ,hm,hst,hr',hN',hd'⟩;cases ae with
 | normal=>exact⟨.normal,c',tsel live T',H',n',hQ,hm,hst,Nq live hr',hN',hd'⟩
 | exit i=>exact⟨.exit i,c',T',H',n',hQ,hm,hst,hr',hN',hd'⟩
 | ret=>exact⟨.ret,c',T',H',n',hQ,hm,hst,hr',hN',hd'⟩
 | pan p=>exact⟨.pan p,c',T',H',n',hQ,hm,hst,hr',hN',hd'⟩
theorem ZP{P : Program}{N id : Nat}{l : List Oper}{T : Nat → AV}{H : Heap}{n : Nat}{Q : QK}(z : TypeId → AV)(live : List Nat)
   (h:∀K:KT,(∀T H n,Q .normal T H n→K T H n)→erun P z N l.toArray l T H n (ZK (fun T' H' n'=>K (tsel live T') H' n') Q)):
   awp P N (.region id l.toArray false) T H n Q:=
 Uu live (Kq z (by simpa using h (fun T' H' n'=>Q .normal T' H' n') (fun _ _ _ h=>h)))
def Wk(a b:AV):Prop:=a.sz=b.sz∧∀c m cs,Rel c a m cs→Rel c b m cs
theorem Wk.refl(a:AV):Wk a a:=⟨rfl,fun _ _ _ h=>h⟩
theorem Wk.nilsl(e:Nat):Wk .nilsl (.sl e []):=⟨rfl,fun c m cs h=>by
 simp only[Rel]at h ⊢;subst h;exact⟨none,0,osi,osi,osi,.inl osi⟩⟩
theorem Wk.junk(a:AV):∀c v,Rel c a false [v]→Rel c .junk false [v]:=fun c v _=>by simp[Rel]
def WkL:List AV→List AV→Prop
 | [],[]=>True
 | a::l,b::m=>Wk a b∧WkL l m
 | _,_=>False
theorem WkL.relF{c:Ctx}:∀{l m:List AV} {cs:List Value},WkL l m→RelF c l cs→RelF c m cs
 | [],[],_,_,h=>h
 | a::l,b::m,cs,hw,h=>by
   simp only[RelF]at h ⊢;obtain⟨c1,c2,e,h1,h2⟩:=h;exact⟨c1,c2,e,hw.1.2 _ _ _ h1,hw.2.relF h2⟩
 | [],_::_,_,hw,_=>hw.elim
 | _::_,[],_,hw,_=>hw.elim
theorem WkL.relT{c:Ctx}:∀{l m:List AV} {cs:List Value},WkL l m→RelT c l cs→RelT c m cs
 | [],[],_,_,h=>h
 | a::l,b::m,cs,hw,h=>by
   simp only[RelT]at h ⊢;obtain⟨c1,c2,e,h1,h2⟩:=h;exact⟨c1,c2,e,hw.1.2 _ _ _ h1,hw.2.relT h2⟩
 | [],_::_,_,hw,_=>hw.elim
 | _::_,[],_,hw,_=>hw.elim
theorem WkL.szs:∀{l m:List AV},WkL l m→AV.szs l=AV.szs m
 | [],[],_=>rfl
 | a::l,b::m,hw=>by simp only[AV.szs];rw[hw.1.1,hw.2.szs]
 | [],_::_,hw=>hw.elim
 | _::_,[],hw=>hw.elim
theorem WkL.len:∀{l m:List AV},WkL l m→l.length=m.length
 | [],[],_=>rfl
 | a::l,b::m,hw=>by simp[hw.2.len]
 | [],_::_,hw=>hw.elim
 | _::_,[],hw=>hw.elim
theorem Wk.agg{l m:List AV}(h:WkL l m):Wk (.agg l) (.agg m):=⟨by simp only[AV.sz];exact h.szs,fun c mm cs hr=>by
 cases mm with
 | true=>simp only[Rel]at hr ⊢;exact h.relF hr
 | false=>simp only[Rel]at hr ⊢;obtain⟨arr,e,hr⟩:=hr;exact⟨arr,e,h.relF hr⟩⟩
theorem Wk.tup{l m:List AV}(h:WkL l m):Wk (.tup l) (.tup m):=⟨rfl,fun c mm cs hr=>by
 cases mm with
 | true=>simp[Rel]at hr
 | false=>simp only[Rel]at hr ⊢;obtain⟨arr,e,hr⟩:=hr;exact⟨arr,e,h.relT hr⟩⟩
theorem WkL.szAll{e:Nat}:∀{l m:List AV},WkL l m→(∀x∈l,x.sz=e)→∀x∈m,x.sz=e
 | [],[],_,_,x,hx=>by simp at hx
 | a::l,b::m,hw,h,x,hx=>by
   exact kcb
 | [],_::_,hw,_,_,_=>hw.elim
 | _::_,[],hw,_,_,_=>hw.elim
theorem Wk.sl{e:Nat}{l m:List AV}(h:WkL l m):Wk (.sl e l) (.sl e m):=⟨rfl,fun c mm cs hr=>by
 simp only[Rel]at hr ⊢;obtain⟨a,cap,ev,hc,hz,hx⟩:=hr;have hl:=h.len;refine⟨a,cap,by rw[←hl];exact ev,by rw[←hl];exact hc,h.szAll hz,hx.imp ?_ ?_⟩
 ·intro e;subst e;cases m with
  | nil=>rfl
  | cons _ _=>exact h.elim
 ·rintro⟨b,off,arr,ds,e1,hb,hd,ha⟩;exact⟨b,off,arr,ds,e1,hb,h.relF hd,ha⟩⟩
theorem Zn.wk{P:Program}{f:FuncId}{args args':List AV}{H:Heap}{n:Nat}{K:ARes→Heap→Nat→Prop}(hw:WkL args args')(h:Zn P f args' H n K):Zn P f args H n K:=
 fun c w vs hs hr=>h c w vs hs (hw.relT hr)
theorem Ret.wk{P:Program}{f:FuncId}{args args':List AV}{H:Heap}{n:Nat}{r:AV}{H':Heap}{n':Nat}(h:Ret P f args' H n r H' n')(hw:WkL args args'):Ret P f args H n r H' n':=Zn.wk hw h
def Adp(n:Nat)(a b:AV):Prop:=a.sz=b.sz∧∀c m cs,c.ρ n 0=some .nil→Rel c a m cs→Rel c b m cs
theorem Adp.refl(n:Nat)(a:AV):Adp n a a:=⟨rfl,fun _ _ _ _ h=>h⟩
theorem Adp.nilsl(n:Nat):Adp n .nilsl (.osl n 0 0 0):=⟨rfl,fun c m cs hl h=>by
 simp only[Rel]at h ⊢;exact⟨.nil,hl,osi,osi,h⟩⟩
def AdpL(n:Nat):List AV→List AV→Prop
 | [],[]=>True
 | a::l,b::m=>Adp n a b∧AdpL n l m
 | _,_=>False
theorem AdpL.relF{n:Nat}{c:Ctx}(hl:c.ρ n 0=some .nil):∀{l m:List AV} {cs:List Value},AdpL n l m→RelF c l cs→RelF c m cs
 | [],[],_,_,h=>h
 | a::l,b::m,cs,hw,h=>by
   simp only[RelF]at h ⊢;obtain⟨c1,c2,e,h1,h2⟩:=h;exact⟨c1,c2,e,hw.1.2 _ _ _ hl h1,AdpL.relF hl hw.2 h2⟩
 | [],_::_,_,hw,_=>hw.elim
 | _::_,[],_,hw,_=>hw.elim
theorem AdpL.szs{n:Nat}:∀{l m:List AV},AdpL n l m→AV.szs l=AV.szs m
 | [],[],_=>rfl
 | a::l,b::m,hw=>by simp only[AV.szs];rw[hw.1.1,hw.2.szs]
 | [],_::_,hw=>hw.elim
 | _::_,[],hw=>hw.elim
theorem AdpL.len{n:Nat}:∀{l m:List AV},AdpL n l m→l.length=m.length
 | [],[],_=>rfl
 | a::l,b::m,hw=>by simp[hw.2.len]
 | [],_::_,hw=>hw.elim
 | _::_,[],hw=>hw.elim
theorem AdpL.szAll{n e:Nat}:∀{l m:List AV},AdpL n l m→(∀x∈l,x.sz=e)→∀x∈m,x.sz=e
 | [],[],_,_,x,hx=>by simp at hx
 | a::l,b::m,hw,h,x,hx=>by
   exact kcb
 | [],_::_,hw,_,_,_=>hw.elim
 | _::_,[],hw,_,_,_=>hw.elim
theorem Adp.agg{n:Nat}{l m:List AV}(h:AdpL n l m):Adp n (.agg l) (.agg m):=⟨by simp only[AV.sz];exact h.szs,fun c mm cs hl hr=>by
 cases mm with
 | true=>simp only[Rel]at hr ⊢;exact h.relF hl hr
 | false=>simp only[Rel]at hr ⊢;obtain⟨arr,e,hr⟩:=hr;exact⟨arr,e,h.relF hl hr⟩⟩
theorem RN{c:Ctx}{H:Heap}{n:Nat}{w:World}(hs:Sim c H n w)(esz:Nat):Step c H w (c.addLoc n 0 .nil) (H.put n (some (.arr 0 esz []))) (n+1) w:=by
 have hf:=hs.fresh n (Nat.le_refl _);refine Step.renew (n':=n+1) hs n (.arr 0 esz []) .nil om om (hf.2 0) (fun v _=>hf.2 v) (.refl _ _) (fun _ _ _ _ _ _=>rfl) (fun _ _ _=>rfl) ?_ (fun b cap e h=>by simp at h);simp only[ZR];exact⟨_,Rn,trivial⟩
theorem ZN{P : Program}{N : Nat}{code : Code}{T : Nat → AV}{H : Heap}{n : Nat}{Q : QK}(t : Tmp)(esz : Nat)(hT : T t = .nilsl)
   (h:awp P N code (tput T (some t) (.osl n 0 0 0)) (H.put n (some (.arr 0 esz []))) (n+1) Q):awp P N code T H n Q:=
 Vf (fun c w tmps hs hr=>by
   have hst:=RN hs esz;refine⟨_,hst,fun u=> ?_⟩;have hu:=Rel.mono hst.le _ _ _ (hr u);simp only[tput];split
   ·rename_i e;subst e;rw[hT]at hu;exact(Adp.nilsl n).2 _ _ _ Rn hu
   ·exact hu) h
theorem Step.retell{c : Ctx}{H : Heap}{n : Nat}{w : World}(hs : Sim c H n w){k ver e : Nat}{els els' : List AV}(hk : H k = some (.arr ver e els))
   (hrel:∀ds,RelF c els ds→RelF c els' ds) (hlen:els'.length=els.length) (hsz:(∀x∈els,x.sz=e)→∀x∈els',x.sz=e):Step c H w c (H.put k (some (.arr ver e els'))) n w:=by
 refine Step.write hs k _ (.arr ver e els') hk rfl (.refl _ _) (fun _ _ _ _ _ _=>rfl) (fun _ _ _=>rfl) ?_;have ho:=hs.own k _ hk;simp only[ZR]at ho ⊢;obtain⟨l,hl,hm⟩:=ho;refine⟨l,hl,?_⟩;cases l with
 | nil=>
   simp only at hm;subst hm;exact List.length_eq_zero_iff.1 (by simpa using hlen)
 | blk b cap e'=>
   obtain⟨he,hz,hc,arr,ty,ds,hb,hs',hr,ha⟩:=hm;exact⟨he,hsz hz,om,arr,ty,ds,hb,hs',hrel _ hr,ha⟩
theorem ZO{P : Program}{N : Nat}{code : Code}{T : Nat → AV}{H : Heap}{n : Nat}{Q : QK}(k esz : Nat){ver e : Nat}{els els' : List AV}(hk : H k = some (.arr ver e els))(ha : AdpL n els els')
   (h:awp P N code T ((H.put n (some (.arr 0 esz []))).put k (some (.arr ver e els'))) (n+1) Q):awp P N code T H n Q:=
 Vf (fun c w tmps hs hr=>by
   have hst:=RN hs esz;have hkn:k≠n:=fun e=>by subst e;rw[(hs.fresh _ (Nat.le_refl _)).1]at hk;simp at hk
   have hst2:=Step.retell (els':=els') hst.sim (k:=k) (by rw[Rk _ _ hkn];exact hk) (fun ds hd=>ha.relF Rn hd) ha.len.symm ha.szAll;exact⟨_,hst.trans hst2,ZJ.mono (hst.trans hst2).le hr⟩) h
theorem P9{P : Program}{N : Nat}{code : Code}{T : Nat → AV}{H : Heap}{n : Nat}{Q : QK}(t : Tmp)(v : AV)(hT : Wk (T t) v)
   (h:awp P N code (tput T (some t) v) H n Q):awp P N code T H n Q:=
 Vf (fun c w tmps hs hr=>⟨c,.refl hs,fun u=>by
   simp only[tput];split
   ·rename_i e;subst e;exact hT.2 _ _ _ (hr _)
   ·exact hr u⟩) h
mutual
def AV.kl(n:Nat):AV→Prop
 | .loc k _ _ _ _=>k<n
 | .osl k _ _ _=>k<n
 | .omap k=>k<n
 | .rp d=>d.kl n
 | .sl _ xs=>Rv n xs
 | .agg fs=>Rv n fs
 | .tup fs=>Rv n fs
 | .fn _ a b=>Rv n a∧Rv n b
 | .iface _ v=>v.kl n
 | .opt g v=>g=true→v.kl n
 | _=>True
def Rv(n:Nat):List AV→Prop
 | []=>True
 | f::fs=>f.kl n∧Rv n fs
end
theorem Sq(n:Nat)(l:List AV):Rv n l↔∀x∈l,x.kl n:=by
 induction l with
 | nil=>simp[Rv]
 | cons a l ih=>simp[Rv,ih]
def Ctx.under(c:Ctx)(n:Nat):Prop:=∀k v,n≤k→c.ρ k v=none
mutual
theorem WZ{c:Ctx}{n:Nat}(hu:c.under n):∀(av:AV) (m:Bool) (cs:List Value),Rel c av m cs→av.kl n
 | .int _ _,_,_,_=>trivial
 | .bool _,_,_,_=>trivial
 | .str _,_,_,_=>trivial
 | .nilp,_,_,_=>trivial
 | .nilsl,_,_,_=>trivial
 | .nilf,_,_,_=>trivial
 | .nilm,_,_,_=>trivial
 | .nili,_,_,_=>trivial
 | .raw _,_,_,_=>trivial
 | .junk,_,_,_=>trivial
 | .rp d,_,_,h=>by
   simp only[Rel]at h;obtain⟨b,off,arr,ds,_,_,hd,_⟩:=h;simp only[AV.kl];exact WZ hu d _ _ hd
 | .loc k v _ _ _,_,_,h=>by
   simp only[Rel]at h;obtain⟨b,cap,esz,hk,_⟩:=h;simp only[AV.kl];exact ka8
 | .osl k v _ _,_,_,h=>by
   simp only[Rel]at h;obtain⟨l,hk,_⟩:=h;simp only[AV.kl];exact ka8
 | .omap k,_,_,h=>by
   simp only[Rel]at h;obtain⟨b,cap,esz,hk,_⟩:=h;simp only[AV.kl];rcases Nat.lt_or_ge k n with h | h
   ·exact h
   ·rw[hu k 0 h]at hk;simp at hk
 | .sl _ xs,_,_,h=>by
   simp only[Rel]at h;obtain⟨a,cap,_,_,_,hx⟩:=h;simp only[AV.kl];rcases hx with rfl | ⟨b,off,arr,ds,_,_,hd,_⟩
   ·trivial
   ·exact WY hu xs _ hd
 | .agg fs,true,_,h=>by simp only[Rel]at h;simp only[AV.kl];exact WY hu fs _ h
 | .agg fs,false,_,h=>by simp only[Rel]at h;obtain⟨arr,_,h⟩:=h;simp only[AV.kl];exact WY hu fs _ h
 | .tup fs,false,_,h=>by simp only[Rel]at h;obtain⟨arr,_,h⟩:=h;simp only[AV.kl];exact VU hu fs _ h
 | .tup _,true,_,h=>by simp[Rel]at h
 | .fn _ a b,_,_,h=>by
   simp only[Rel]at h;obtain⟨fv,cv,_,h1,h2⟩:=h;simp only[AV.kl];exact⟨VU hu a _ h1,VU hu b _ h2⟩
 | .iface _ v,_,_,h=>by
   simp only[Rel]at h;obtain⟨x,_,h⟩:=h;simp only[AV.kl];exact WZ hu v _ _ h
 | .opt g v,false,_,h=>by
   simp only[Rel]at h;simp only[AV.kl];intro hg;rcases h with⟨_,h⟩ | ⟨h,_⟩
   ·exact WZ hu v _ _ h
   ·rw[hg]at h;simp at h
 | .opt _ _,true,_,h=>by simp[Rel]at h
theorem WY{c:Ctx}{n:Nat}(hu:c.under n):∀(fs:List AV) (cs:List Value),RelF c fs cs→Rv n fs
 | [],_,_=>trivial
 | f::fs,_,h=>by
   simp only[RelF]at h;obtain⟨c1,c2,_,h1,h2⟩:=h;simp only[Rv];exact⟨WZ hu f _ _ h1,WY hu fs _ h2⟩
theorem VU{c:Ctx}{n:Nat}(hu:c.under n):∀(fs:List AV) (cs:List Value),RelT c fs cs→Rv n fs
 | [],_,_=>trivial
 | f::fs,_,h=>by
   simp only[RelT]at h;obtain⟨c1,c2,_,h1,h2⟩:=h;simp only[Rv];exact⟨WZ hu f _ _ h1,VU hu fs _ h2⟩
end
structure Ctx.low(c c':Ctx)(n:Nat):Prop where
 ρ:∀{k v l},k<n→c.ρ k v=some l→c'.ρ k v=some l
 ro:∀{b a},c.ro b=some a→c'.ro b=some a
mutual
theorem Rel.low{c c':Ctx}{n:Nat}(h:c.low c' n):∀(av:AV) (m:Bool) (cs:List Value),av.kl n→Rel c av m cs→Rel c' av m cs
 | .int _ _,_,_,_,hr=>by simpa [Rel]using hr
 | .bool _,_,_,_,hr=>by simpa [Rel]using hr
 | .str _,_,_,_,hr=>by simpa [Rel]using hr
 | .nilp,_,_,_,hr=>by simpa [Rel]using hr
 | .rp d,_,_,hk,hr=>by
   simp only[Rel]at hr ⊢;simp only[AV.kl]at hk;obtain⟨b,off,arr,ds,e,hb,hd,ha⟩:=hr;exact⟨b,off,arr,ds,e,h.ro hb,Rel.low h d _ _ hk hd,ha⟩
 | .loc _ _ _ _ _,_,_,hk,hr=>by
   exact kca
 | .nilsl,_,_,_,hr=>by simpa [Rel]using hr
 | .sl _ xs,_,_,hk,hr=>by
   simp only[Rel]at hr ⊢;simp only[AV.kl]at hk;obtain⟨a,cap,e,hc,hz,hx⟩:=hr;refine⟨a,cap,e,hc,hz,hx.imp id ?_⟩;rintro⟨b,off,arr,ds,e1,hb,hd,ha⟩;exact⟨b,off,arr,ds,e1,h.ro hb,RelF.low h xs _ hk hd,ha⟩
 | .osl _ _ _ _,_,_,hk,hr=>by
   simp only[Rel]at hr ⊢;simp only[AV.kl]at hk;obtain⟨l,hl,hm⟩:=hr;exact⟨l,h.ρ hk hl,hm⟩
 | .agg fs,true,_,hk,hr=>by simp only[Rel]at hr ⊢;simp only[AV.kl]at hk;exact RelF.low h fs _ hk hr
 | .agg fs,false,_,hk,hr=>by
   simp only[Rel]at hr ⊢;simp only[AV.kl]at hk;obtain⟨arr,e,hf⟩:=hr;exact⟨arr,e,RelF.low h fs _ hk hf⟩
 | .tup vs,false,_,hk,hr=>by
   simp only[Rel]at hr ⊢;simp only[AV.kl]at hk;obtain⟨arr,e,hf⟩:=hr;exact⟨arr,e,RelT.low h vs _ hk hf⟩
 | .tup _,true,_,_,hr=>by simp[Rel]at hr
 | .fn _ a b,_,_,hk,hr=>by
   simp only[Rel]at hr ⊢;simp only[AV.kl]at hk;obtain⟨fv,cv,e,h1,h2⟩:=hr;exact⟨fv,cv,e,RelT.low h a _ hk.1 h1,RelT.low h b _ hk.2 h2⟩
 | .nilf,_,_,_,hr=>by simpa [Rel]using hr
 | .nilm,_,_,_,hr=>by simpa [Rel]using hr
 | .omap _,_,_,hk,hr=>by
   exact kca
 | .nili,_,_,_,hr=>by simpa [Rel]using hr
 | .iface _ v,_,_,hk,hr=>by
   simp only[Rel]at hr ⊢;simp only[AV.kl]at hk;obtain⟨x,e,hx⟩:=hr;exact⟨x,e,Rel.low h v _ _ hk hx⟩
 | .opt g v,false,_,hk,hr=>by
   simp only[Rel]at hr ⊢;simp only[AV.kl]at hk;exact hr.imp (fun⟨a,b⟩=>⟨a,Rel.low h v _ _ (hk a) b⟩) id
 | .opt _ _,true,_,_,hr=>by simp[Rel]at hr
 | .raw _,_,_,_,hr=>by simpa [Rel]using hr
 | .junk,_,_,_,hr=>by simpa [Rel]using hr
theorem RelF.low{c c':Ctx}{n:Nat}(h:c.low c' n):∀(fs:List AV) (cs:List Value),Rv n fs→RelF c fs cs→RelF c' fs cs
 | [],_,_,hr=>by simpa [RelF]using hr
 | f::fs,_,hk,hr=>by
   simp only[RelF]at hr ⊢;simp only[Rv]at hk;obtain⟨c1,c2,e,h1,h2⟩:=hr;exact⟨c1,c2,e,Rel.low h f _ _ hk.1 h1,RelF.low h fs _ hk.2 h2⟩
theorem RelT.low{c c':Ctx}{n:Nat}(h:c.low c' n):∀(fs:List AV) (cs:List Value),Rv n fs→RelT c fs cs→RelT c' fs cs
 | [],_,_,hr=>by simpa [RelT]using hr
 | f::fs,_,hk,hr=>by
   simp only[RelT]at hr ⊢;simp only[Rv]at hk;obtain⟨v,r,e,h1,h2⟩:=hr;exact⟨v,r,e,Rel.low h f _ _ hk.1 h1,RelT.low h fs _ hk.2 h2⟩
end
def AObj.kl(n:Nat):AObj→Prop
 | .arr _ _ els=>Rv n els
 | .map es=>∀e∈es,e.1.kl n∧e.2.kl n
 | .glob _ els=>Rv n els
mutual
inductive Frz(H:Heap)(n:Nat):AV→AV→Prop
 | kl {a:AV}:a.kl n→Frz H n a a
 | osl {k ver off len e:Nat} {els ys:List AV}:H k=some (.arr ver e els)→n≤k→off+len≤els.length→FrzL H n ((els.drop off).take len) ys→Frz H n (.osl k ver off len) (.sl e ys)
 | loc {k ver off i e:Nat} {els:List AV} {p:List Nat} {y:AV}:H k=some (.arr ver e els)→n≤k→i<els.length→off=i*e+(nth els i).pathOff p→(nth els i).pathOK p→Frz H n ((nth els i).at p) y→Frz H n (.loc k ver off i p) (.rp y)
 | agg {fs gs:List AV}:FrzL H n fs gs→Frz H n (.agg fs) (.agg gs)
 | tup {fs gs:List AV}:FrzL H n fs gs→Frz H n (.tup fs) (.tup gs)
 | sl {e:Nat} {fs gs:List AV}:FrzL H n fs gs→Frz H n (.sl e fs) (.sl e gs)
 | fn {f:Fn} {a b a' b':List AV}:FrzL H n a a'→FrzL H n b b'→Frz H n (.fn f a b) (.fn f a' b')
 | nilsl {e:Nat}:Frz H n .nilsl (.sl e [])
inductive FrzL(H:Heap)(n:Nat):List AV→List AV→Prop
 | nil:FrzL H n [] []
 | cons {a b:AV} {l m:List AV}:Frz H n a b→FrzL H n l m→FrzL H n (a::l) (b::m)
end
mutual
theorem Frz.sz{H:Heap}{n:Nat}:∀{a b:AV},Frz H n a b→a.sz=b.sz
 | _,_,.kl _=>rfl
 | _,_,.osl _ _ _ _=>rfl
 | _,_,.loc _ _ _ _ _ _=>rfl
 | _,_,.agg h=>by simp only[AV.sz];exact h.szs
 | _,_,.tup _=>rfl
 | _,_,.sl _=>rfl
 | _,_,.fn _ _=>rfl
 | _,_,.nilsl=>rfl
theorem FrzL.szs{H:Heap}{n:Nat}:∀{a b:List AV},FrzL H n a b→AV.szs a=AV.szs b
 | _,_,.nil=>rfl
 | _,_,.cons h1 h2=>by simp only[AV.szs];rw[h1.sz,h2.szs]
end
theorem FrzL.len{H:Heap}{n:Nat}:∀{a b:List AV},FrzL H n a b→a.length=b.length
 | _,_,.nil=>rfl
 | _,_,.cons _ h=>by simp[h.len]
theorem FrzL.szAll{H:Heap}{n e:Nat}:∀{a b:List AV},FrzL H n a b→(∀x∈a,x.sz=e)→∀x∈b,x.sz=e
 | _,_,.nil,_,x,hx=>by simp at hx
 | _,_,.cons h1 h2,h,x,hx=>by
   rcases List.mem_cons.1 hx with rfl | hx
   ·rw[←h1.sz];exact h _ osi
   ·exact h2.szAll (fun y hy=>h y (by simp[hy])) x hx
open Classical in
noncomputable def Ctx.frz(c:Ctx)(H:Heap)(n:Nat)(w:World):Ctx where
 ρ:=fun k v=>if k<n then c.ρ k v else none
 ro:=fun b=>match c.ro b with
   | some a=>some a
   | none => if ∃ k ver e els, n ≤ k ∧ H k = some (.arr ver e els) ∧ Zm c k (.arr ver e els) = some b then
       (match w.heap[b]? with | some (.cells a _ _)=>some a | _=>none)else none
theorem Ctx.frz_low(c:Ctx)(H:Heap)(n:Nat)(w:World):c.low (c.frz H n w) n where
 ρ:=fun{k v l} hk h=>by show(if k<n then c.ρ k v else none)=some l;rw[if_pos hk];exact h
 ro:=fun{b a} h=>by simp only[Ctx.frz,h]
theorem Sn{c : Ctx}{H : Heap}{n n' : Nat}{w : World}(hs : Sim c H n' w){k ver e : Nat}{els : List AV}(hk : H k = some (.arr ver e els))(hn : n ≤ k){b : Nat}(hb : Zm c k (.arr ver e els) = some b){arr : Array Value}{ty : TypeId}{fr : Nat × Nat}(hw : w.heap[b]? = some (.cells arr ty fr)):
   (c.frz H n w).ro b=some arr:=by
 have h0:=hs.sep k _ b hk hb;simp only[Ctx.frz,h0];rw[if_pos ⟨k,ver,e,els,hn,hk,hb⟩,hw]
mutual
theorem Frz.rel{c:Ctx}{H:Heap}{n n':Nat}{w:World}(hs:Sim c H n' w):∀{a b:AV},Frz H n a b→∀{m:Bool} {cs:List Value},Rel c a m cs→Rel (c.frz H n w) b m cs
 | _,_,.kl hk,_,_,hr=>Rel.low (c.frz_low H n w) _ _ _ hk hr
 | _,_,.osl (k:=k) (ver:=ver) (off:=off) (len:=len) (e:=e) (els:=els) (ys:=ys) hk hn hlen hL,m,cs,hr=>by
   have hys:=hL.len;have hlen':((els.drop off).take len).length=len:=oz;rw[hlen']at hys;have ho:=hs.own k _ hk;simp only[ZR]at ho;obtain⟨l,hl,hm⟩:=ho;simp only[Rel]at hr ⊢;obtain⟨l',hl',hmm⟩:=hr;rw[hl]at hl';cases hl';cases l with
   | nil=>
     obtain⟨_,h2,ev⟩:=hmm;subst h2;have:ys=[]:=List.length_eq_zero_iff.1 hys.symm;subst this;exact⟨none,0,by simpa using ev,osi,osi,.inl osi⟩
   | blk b cap e'=>
     obtain⟨he,hz,hc,arr,ty,ds,hb,hsz,hrf,ha⟩:=hm;subst he;obtain⟨cp,o',h1,h2,h3,ev⟩:=hmm;have hbo:Zm c k (.arr ver e' els)=some b:=by simp[Zm,AObj.ver,hl]
     refine⟨_,cp,by rw[←hys];exact ev,by rw[←hys];exact h1,hL.szAll fun x hx=>hz x (List.mem_of_mem_drop (List.mem_of_mem_take hx)),?_⟩;by_cases h0:len=0
     ·left;exact List.length_eq_zero_iff.1 om
     ·right;have eo:o'=off*e':=by rcases h3 with h3 | h3<;>omega
      subst eo;have e1:els=els.take off++((els.drop off).take len++(els.drop off).drop len):=by rw[List.take_append_drop,List.take_append_drop]
      rw[e1]at hrf;obtain⟨d1,r1,ed,hr1,hr2⟩:=RelF.append.1 hrf;obtain⟨d2,d3,ed2,hr3,hr4⟩:=RelF.append.1 hr2;subst ed;subst ed2;have hl1:d1.length=off*e':=by
        exact kat
      obtain⟨_,ha2⟩:=At.append.1 ha;obtain⟨ha3,_⟩:=At.append.1 ha2;exact⟨b,off*e',arr,d2,rfl,Sn hs hk hn hbo hb,FrzL.relF hs hL hr3,by rw[←hl1];simpa using ha3⟩
 | _,_,.loc (k:=k) (ver:=ver) (off:=off) (i:=i) (e:=e) (els:=els) (p:=p) (y:=y) hk hn hi ho hp hF,m,cs,hr=>by
   simp only[Rel]at hr ⊢;obtain⟨b,cap,e',hl,ev⟩:=hr;have hown:=hs.own k _ hk;obtain⟨he,hc,arr,ty,ds,x,hb,hsz,hrf,ha,hx,hax,_⟩:=hown.elem hl hi;subst he;have hbo:Zm c k (.arr ver e' els)=some b:=by simp[Zm,AObj.ver,hl]
   obtain⟨a1,y',b1,ey,hly,hy⟩:=Rel.path p _ _ hx hp;subst ey;obtain⟨_,ha2⟩:=At.append.1 hax;obtain⟨ha3,_⟩:=At.append.1 ha2;exact⟨b,off,arr,y',ev,Sn hs hk hn hbo hb,Frz.rel hs hF hy,by rw[ho];unfold nth;rw[←hly];simpa using ha3⟩
 | _,_,.agg h,true,cs,hr=>by simp only[Rel]at hr ⊢;exact FrzL.relF hs h hr
 | _,_,.agg h,false,cs,hr=>by simp only[Rel]at hr ⊢;obtain⟨arr,e,hr⟩:=hr;exact⟨arr,e,FrzL.relF hs h hr⟩
 | _,_,.tup h,true,cs,hr=>by simp[Rel]at hr
 | _,_,.tup h,false,cs,hr=>by simp only[Rel]at hr ⊢;obtain⟨arr,e,hr⟩:=hr;exact⟨arr,e,FrzL.relT hs h hr⟩
 | _,_,.sl (fs:=fs) (gs:=gs) h,m,cs,hr=>by
   simp only[Rel]at hr ⊢;obtain⟨a,cap,ev,hc,hz,hx⟩:=hr;have hl:=h.len;refine⟨a,cap,by rw[←hl];exact ev,by rw[←hl];exact hc,h.szAll hz,hx.imp ?_ ?_⟩
   ·intro e;subst e;exact List.length_eq_zero_iff.1 (by simpa using hl.symm)
   ·rintro⟨b,off,arr,ds,e1,hb,hd,ha⟩;exact⟨b,off,arr,ds,e1,(c.frz_low H n w).ro hb,FrzL.relF hs h hd,ha⟩
 | _,_,.fn h1 h2,m,cs,hr=>by
   simp only[Rel]at hr ⊢;obtain⟨fv,cv,e,h3,h4⟩:=hr;exact⟨fv,cv,e,FrzL.relT hs h1 h3,FrzL.relT hs h2 h4⟩
 | _,_,.nilsl (e:=e),m,cs,hr=>(Wk.nilsl e).2 _ _ _ (by simpa [Rel]using hr)
theorem FrzL.relF{c:Ctx}{H:Heap}{n n':Nat}{w:World}(hs:Sim c H n' w):∀{a b:List AV},FrzL H n a b→∀{cs:List Value},RelF c a cs→RelF (c.frz H n w) b cs
 | _,_,.nil,_,hr=>by simpa [RelF]using hr
 | _,_,.cons h1 h2,_,hr=>by
   simp only[RelF]at hr ⊢;obtain⟨c1,c2,e,h3,h4⟩:=hr;exact⟨c1,c2,e,Frz.rel hs h1 h3,FrzL.relF hs h2 h4⟩
theorem FrzL.relT{c:Ctx}{H:Heap}{n n':Nat}{w:World}(hs:Sim c H n' w):∀{a b:List AV},FrzL H n a b→∀{cs:List Value},RelT c a cs→RelT (c.frz H n w) b cs
 | _,_,.nil,_,hr=>by simpa [RelT]using hr
 | _,_,.cons h1 h2,_,hr=>by
   simp only[RelT]at hr ⊢;obtain⟨c1,c2,e,h3,h4⟩:=hr;exact⟨c1,c2,e,Frz.rel hs h1 h3,FrzL.relT hs h2 h4⟩
end
theorem RelM.low{c c':Ctx}{n:Nat}(h:c.low c' n):∀(es:List (AV×AV)) (l:List MapEntry),(∀e∈es,e.1.kl n∧e.2.kl n)→RelM c es l→RelM c' es l
 | [],_,_,hr=>by simpa [RelM]using hr
 | (k,v)::es,_,hk,hr=>by
   simp only[RelM]at hr ⊢;obtain⟨e,r,e1,h1,h2,h3⟩:=hr;have:=hk (k,v) osi;exact⟨e,r,e1,Rel.low h k _ _ this.1 h1,Rel.low h v _ _ this.2 h2,RelM.low h es _ (fun e he=>hk e (by simp[he])) h3⟩
theorem Pi{c:Ctx}{n:Nat}(hu:c.under n):∀(es:List (AV×AV)) (l:List MapEntry),RelM c es l→∀e∈es,e.1.kl n∧e.2.kl n
 | [],_,_,e,he=>by simp at he
 | (k,v)::es,_,hr,e,he=>by
   simp only[RelM]at hr;obtain⟨x,r,e1,h1,h2,h3⟩:=hr;rcases List.mem_cons.1 he with rfl | he
   ·exact⟨WZ hu _ _ _ h1,WZ hu _ _ _ h2⟩
   ·exact Pi hu es r h3 e he
theorem ZR.kl{c:Ctx}{n k:Nat}{w:World}{o:AObj}(hu:c.under n)(h:ZR c k w o):o.kl n:=by
 cases o with
 | arr ver e els=>
   simp only[ZR]at h;obtain⟨l,_,hm⟩:=h;cases l with
   | nil=>simp only at hm;subst hm;trivial
   | blk b cap e'=>
     obtain⟨_,_,_,arr,ty,ds,_,_,hr,_⟩:=hm;exact WY hu els _ hr
 | map es=>
   simp only[ZR]at h;obtain⟨b,cap,e,entries,clock,_,_,hr⟩:=h;exact Pi hu es _ hr
 | glob e els=>
   simp only[ZR]at h;obtain⟨_,_,arr,ds,_,hr,_⟩:=h;exact WY hu els _ hr
theorem ZR.low{c c':Ctx}{n k:Nat}{w:World}{o:AObj}(hl:c.low c' n)(hk:k<n)(hkl:o.kl n)(h:ZR c k w o):ZR c' k w o:=by
 cases o with
 | arr ver e els=>
   simp only[ZR]at h ⊢;obtain⟨l,h1,hm⟩:=h;refine⟨l,hl.ρ hk h1,?_⟩;cases l with
   | nil=>exact hm
   | blk b cap e'=>
     obtain⟨h1,h2,h3,arr,ty,ds,h4,h5,hr,h6⟩:=hm;exact⟨h1,h2,h3,arr,ty,ds,h4,h5,RelF.low hl _ _ hkl hr,h6⟩
 | map es=>
   simp only[ZR]at h ⊢;obtain⟨b,cap,e,entries,clock,h1,h2,hr⟩:=h;exact⟨b,cap,e,entries,clock,hl.ρ hk h1,h2,RelM.low hl es _ hkl hr⟩
 | glob e els=>
   simp only[ZR]at h ⊢;obtain⟨h1,h2,arr,ds,h3,hr,ha⟩:=h;exact⟨hl.ρ hk h1,h2,arr,ds,hl.ro h3,RelF.low hl _ _ hkl hr,ha⟩
theorem Step.fin{c0 c : Ctx}{H0 H H' : Heap}{n n' : Nat}{w0 w : World}(hs0 : Sim c0 H0 n w0)(h : Step c0 H0 w0 c H n' w)
   (hlow:∀k,k<n→H' k=H k∧(H k=H0 k∨∀o,H k=some o→o.kl n)) (hhigh:∀k,n≤k→H' k=H0 k):Step c0 H0 w0 (c.frz H n w) H' n w:=by
 have hu:c0.under n:=fun k v hk=>(hs0.fresh k hk).2 v;have hnone:∀k,n≤k→H' k=none:=fun k hk=>by rw[hhigh k hk];exact(hs0.fresh k hk).1
 have hkl:∀k o,H' k=some o→k<n∧H k=some o∧o.kl n:=fun k o hk=>by
   have hkn:k<n:=by
     exact kcI
   obtain⟨h1,h2⟩:=hlow k hkn;rw[h1]at hk;refine⟨hkn,hk,?_⟩;exact kcC
 have hbo:∀k o,k<n→Zm (c.frz H n w) k o=Zm c k o:=fun k o hk=>by
   unfold Zm;have:(c.frz H n w).ρ k o.ver=c.ρ k o.ver:=by show(if k<n then _ else none)=_;rw[if_pos hk]
   rw[this]
 exact{
   le:={
     ρ:=fun{k v l} hk=>by
       have hkn:k<n:=by
         exact ka8
       exact(c.frz_low H n w).ρ hkn (h.le.ρ hk)
     ro:=fun hb=>(c.frz_low H n w).ro (h.le.ro hb)}
   sim:={
     ro:=fun b a hb=>by
       simp only[Ctx.frz]at hb;split at hb
       ·rename_i a' hr;cases hb;exact h.sim.ro b _ hr
       ·exact kan
     own:=fun k o hk=>by
       obtain⟨h1,h2,h3⟩:=hkl k o hk;exact(h.sim.own k o h2).low (c.frz_low H n w) h1 h3
     sep:=fun k o b hk hb=>by
       obtain⟨h1,h2,h3⟩:=hkl k o hk;rw[hbo k o h1]at hb;have h4:=h.sim.sep k o b h2 hb;simp only[Ctx.frz,h4];rw[if_neg];rintro⟨k',ver,e,els,hn',hk',hb'⟩;have:=h.sim.inj k k' o _ b h2 hk' hb hb';omega
     inj:=fun k k' o o' b h1 h2 b1 b2=>by
       obtain⟨h3,h4,_⟩:=hkl k o h1;obtain⟨h5,h6,_⟩:=hkl k' o' h2;rw[hbo k o h3]at b1;rw[hbo k' o' h5]at b2;exact h.sim.inj k k' o o' b h4 h6 b1 b2
     fresh:=fun k hk=>⟨hnone k hk,fun v=>by show(if k<n then _ else none)=none;rw[if_neg om]⟩
     vers:=fun k o v hk hv=>by
       obtain⟨h3,h4,_⟩:=hkl k o hk;show(if k<n then c.ρ k v else none)=none;rw[if_pos h3];exact h.sim.vers k o v h4 hv}
   fr:=h.fr
   new:=fun b ⟨k,o,hk,hb⟩=>by
     obtain⟨h3,h4,_⟩:=hkl k o hk;rw[hbo k o h3]at hb;exact h.new b ⟨k,o,h4,hb⟩}
theorem Zn.fin{P : Program}{f : FuncId}{args : List AV}{H : Heap}{n : Nat}{K : ARes → Heap → Nat → Prop}
   (h:Zn P f args H n fun res H1 n'=>∃r r' H',res= .val r∧(∀k,k<n→H' k=H1 k∧(H1 k=H k∨∀o,H1 k=some o→o.kl n))∧(∀k,n≤k→H' k=H k)∧Frz H1 n r r'∧K (.val r') H' n):Zn P f args H n K:=
 fun c w vs hs hr=>(h c w vs hs hr).mono fun e w' ⟨res,c',H1,n',⟨r,r',H',hres,hlow,hhigh,hfrz,V⟩,hst,hm⟩=>by
   subst hres;refine⟨.val r',c'.frz H1 n w',H',n,V,Step.fin hs hst hlow hhigh,?_⟩;exact ka9
theorem Ret.fin{P : Program}{f : FuncId}{args : List AV}{H : Heap}{n : Nat}{r' : AV}
   (h:Zn P f args H n fun res H1 n'=>∃r,res= .val r∧(∀k,k<n→H1 k=H k)∧Frz H1 n r r'):Ret P f args H n r' H n:=
 Zn.fin (h.mono fun res H1 n' ⟨r,hr,hk,hf⟩=>⟨r,r',H,hr,fun k hkn=>⟨(hk k hkn).symm,.inl (hk k hkn)⟩,fun _ _=>rfl,hf,rfl,rfl,rfl⟩)
section
variable (P:Program)(z:TypeId→AV)(T:Nat→AV)(H H':Heap)(dst:Option Tmp)(ty:TypeId)(pos:String)(after:Array Edge)(gd:Option (Nat×Bool))
theorem sameC_none:XO P z T H H' none=True:=rfl
theorem MX(t:TypeId)(x:Operand)(f:Nat):XO P z T H H' (some ⟨dst,.fieldAddr t x f,ty,pos,after,gd⟩)=True:=by cases gd<;>exact eq_true fun _=>rfl
theorem NB(x:Operand):XO P z T H H' (some ⟨dst,.nilCheck x,ty,pos,after,gd⟩)=True:=by cases gd<;>exact eq_true fun _=>rfl
theorem sameC_binOp(o:BinOp)(t:TypeId)(x y:Operand)(t':TypeId):XO P z T H H' (some ⟨dst,.binOp o t x y t',ty,pos,after,gd⟩)=True:=by cases gd<;>exact eq_true fun _=>rfl
theorem sameC_unOp(o:UnOp)(t:TypeId)(x:Operand):XO P z T H H' (some ⟨dst,.unOp o t x,ty,pos,after,gd⟩)=True:=by cases gd<;>exact eq_true fun _=>rfl
theorem sameC_extract(x:Operand)(i:Nat):XO P z T H H' (some ⟨dst,.extract x i,ty,pos,after,gd⟩)=True:=by cases gd<;>exact eq_true fun _=>rfl
theorem sameC_convert(s d:TypeId)(x:Operand):XO P z T H H' (some ⟨dst,.convert s d x,ty,pos,after,gd⟩)=∀g,Yo P H' s d (strip g (evO T x))=Yo P H s d (strip g (evO T x)):=by cases gd<;>rfl
theorem sameC_field(t:TypeId)(x:Operand)(f:Nat):XO P z T H H' (some ⟨dst,.field t x f,ty,pos,after,gd⟩)=True:=by cases gd<;>exact eq_true fun _=>rfl
theorem sameC_index(t:TypeId)(x i:Operand):XO P z T H H' (some ⟨dst,.index t x i,ty,pos,after,gd⟩)=True:=by cases gd<;>exact eq_true fun _=>rfl
theorem sameC_build(t:TypeId)(p:Array (Nat×Operand)):XO P z T H H' (some ⟨dst,.build t p,ty,pos,after,gd⟩)=True:=by cases gd<;>exact eq_true fun _=>rfl
theorem LC(t:TypeId)(k:Nat)(p:Array (Nat×Operand)):XO P z T H H' (some ⟨dst,.buildSlice t k p,ty,pos,after,gd⟩)=True:=by cases gd<;>exact eq_true fun _=>rfl
theorem NC(f:Fn)(a b:Array Operand):XO P z T H H' (some ⟨dst,.makeFunc f a b,ty,pos,after,gd⟩)=True:=by cases gd<;>exact eq_true fun _=>rfl
theorem sameC_pick(c a b:Operand):XO P z T H H' (some ⟨dst,.pick c a b,ty,pos,after,gd⟩)=True:=by cases gd<;>exact eq_true fun _=>rfl
theorem sameC_move(x:Operand):XO P z T H H' (some ⟨dst,.move x,ty,pos,after,gd⟩)=True:=by cases gd<;>exact eq_true fun _=>rfl
theorem sameC_assign(x:Operand):XO P z T H H' (some ⟨dst,.assign x,ty,pos,after,gd⟩)=True:=by cases gd<;>exact eq_true fun _=>rfl
theorem sameC_builtin(b:Builtin)(args:Array Operand)(ts:Array TypeId):XO P z T H H' (some ⟨dst,.call ⟨.builtin b,args,ts⟩,ty,pos,after,gd⟩)=True:=by cases gd<;>exact eq_true fun _=>rfl
theorem sameC_load(t:TypeId)(x:Operand):XO P z T H H' (some ⟨dst,.load t x,ty,pos,after,gd⟩)=∀g,VT P H' t (strip g (evO T x))=VT P H t (strip g (evO T x)):=by cases gd<;>rfl
theorem MW(t:TypeId)(x i:Operand):XO P z T H H' (some ⟨dst,.indexAddr t x i,ty,pos,after,gd⟩)=∀g,Yu P H' t (strip g (evO T x)) (strip g (evO T i))=Yu P H t (strip g (evO T x)) (strip g (evO T i)):=by cases gd<;>rfl
theorem sameC_callf(fo:Operand)(args:List Operand)(ts:Array TypeId):XO P z T H H' (some ⟨dst,.call ⟨.value fo,args.toArray,ts⟩,ty,pos,after,none⟩)=∀d,dst=some d→Jr P (strip true (evO T fo)) (args.map fun x=>strip true (evO T x)) H' (T d):=rfl
end
attribute [go_sem] sameC_none MX NB sameC_binOp sameC_unOp sameC_extract sameC_convert sameC_field sameC_index sameC_build LC NC sameC_pick sameC_move sameC_assign sameC_builtin sameC_load MW sameC_callf
theorem qLoad_bif(P:Program)(H H':Heap)(t:TypeId)(c:Bool)(x:AV):(VT P H' t (bif c then x else .junk)=VT P H t (bif c then x else .junk))=(c=true→VT P H' t x=VT P H t x):=by
 cases c
 ·simp[VT]
 ·simp
theorem qIdx_bif(P:Program)(H H':Heap)(t:TypeId)(c:Bool)(x i:AV):(Yu P H' t (bif c then x else .junk) i=Yu P H t (bif c then x else .junk) i)=(c=true→Yu P H' t x i=Yu P H t x i):=by
 cases c
 ·simp[Yu]
 ·simp
attribute [go_sem] qLoad_bif qIdx_bif qConvH_bif
theorem QA{P : Program}{N : Nat}{code : Code}{T : Nat → AV}{H : Heap}{n : Nat}{Q : QK}(k : Nat){ver e : Nat}{els els' : List AV}(hk : H k = some (.arr ver e els))(ha : WkL els els')
   (h:awp P N code T (H.put k (some (.arr ver e els'))) n Q):awp P N code T H n Q:=
 Vf (fun c w tmps hs hr=>by
   have hst:=Step.retell (els':=els') hs hk (fun ds hd=>ha.relF hd) ha.len.symm ha.szAll;exact⟨_,hst,ZJ.mono hst.le hr⟩) h
attribute [go_sem] implies_true
theorem peel{A B:Prop}(b:B)(a:A:=by first | omega | assumption | (simp;done) | (intros;simp_all;done) | decide):A∧B:=⟨a,b⟩
theorem Zb{P:Program}{N:Nat}{T:Nat→AV}{H:Heap}{n:Nat}{Q:QK}{x:Operand}{s t:Code}{b:Bool}(ht:b=true→awp P N s T H n Q)(hf:b=false→awp P N t T H n Q)
 (hc:evO T x= .bool b:=by simp only[go_sem,↓reduceIte,Nat.reduceEqDiff,Nat.reduceLT,Nat.reduceSub,Nat.reduceAdd,Nat.reduceMul];rfl):awp P N (.cond x s t) T H n Q:=awp_cond hc ht hf
end Go.Sx
namespace Go.Rt
open Go Go.Sx
structure Ent where
 row:List UInt8
 fam:Int
 qual:List UInt8
 ts:Int
 seq:Int
 kind:Int
 value:List UInt8
 deriving DecidableEq,Inhabited
structure Fml where
 name:List UInt8
 max:Int
 ttl:Int
 deriving DecidableEq,Inhabited
def bys(b:List UInt8):AV:= .sl 1 (b.map Zd)
def i64(n:Int):AV:= .int .i64 n
def PK(e:Ent):AV:= .agg [bys e.row,.int .i64 e.fam,bys e.qual,.int .i64 e.ts,.int .i64 e.seq,.int .i64 e.kind,bys e.value]
def entsAV(l:List Ent):AV:= .sl 7 (l.map PK)
def Y6(f:Fml):AV:= .agg [.str f.name,.int .i64 f.max,.int .i64 f.ttl]
def Zh(s:List Fml):AV:= .agg [.sl 3 (s.map Y6)]
theorem Yg(b:List UInt8):∀x∈b.map Zd,isByte x:=fun x hx=>by
 obtain⟨y,_,rfl⟩:=List.mem_map.1 hx;simp only[Zd,isByte];have:=y.toNat_lt;omega
theorem byteOf_byteAV(b:UInt8):byteOf' (Zd b)=b:=by simp[byteOf',Zd]
theorem Zt(b:List UInt8):(b.map Zd).map byteOf'=b:=by
 rw[List.map_map];conv=>rhs;rw[←List.map_id b]
 exact List.map_congr_left fun x _=>byteOf_byteAV x
theorem Qz(e:UInt8):(Zd e).memOK=true:=rfl
theorem Zr{α:Type}[Inhabited α](f:α→AV)(l:List α)(i:Nat)(h:i<l.length):nth (l.map f) i=f (l.getD i default):=by
 simp[nth,List.getD,List.getElem?_eq_getElem h]
def iv:AV→Nat
 | .int _ n=>n.toNat
 | _=>0
theorem iv_int(k:IntKind)(n:Int):iv (.int k n)=n.toNat:=rfl
theorem k2(n:Nat):n+1+1=n+2:=rfl
theorem k3(n:Nat):n+2+1=n+3:=rfl
theorem k4(n:Nat):n+3+1=n+4:=rfl
theorem k5(n:Nat):n+4+1=n+5:=rfl
theorem k6(n:Nat):n+5+1=n+6:=rfl
theorem k7(n:Nat):n+6+1=n+7:=rfl
theorem k8(n:Nat):n+7+1=n+8:=rfl
theorem k9(n:Nat):n+8+1=n+9:=rfl
theorem k10(n:Nat):n+9+1=n+10:=rfl
theorem k11(n:Nat):n+10+1=n+11:=rfl
theorem k12(n:Nat):n+11+1=n+12:=rfl
theorem k13(n:Nat):n+12+1=n+13:=rfl
theorem k14(n:Nat):n+13+1=n+14:=rfl
theorem k15(n:Nat):n+14+1=n+15:=rfl
theorem k16(n:Nat):n+15+1=n+16:=rfl
theorem k17(n:Nat):n+16+1=n+17:=rfl
theorem k18(n:Nat):n+17+1=n+18:=rfl
theorem k19(n:Nat):n+18+1=n+19:=rfl
theorem k20(n:Nat):n+19+1=n+20:=rfl
theorem k21(n:Nat):n+20+1=n+21:=rfl
theorem k22(n:Nat):n+21+1=n+22:=rfl
theorem k23(n:Nat):n+22+1=n+23:=rfl
theorem k24(n:Nat):n+23+1=n+24:=rfl
theorem kne0(n k:Nat):(n=n+(k+1))=False:=osi
theorem kne1(n k:Nat):(n+(k+1)=n)=False:=osi
theorem put2(H:Heap)(k:Nat)(a b:Option AObj):(H.put k a).put k b=H.put k b:=by funext j;simp only[Heap.put];split<;>rfl
theorem nlt1(n k:Nat):(n+k<n)=False:=osi
theorem wBS_own(P:Program)(z:TypeId→AV)(H:Heap)(n:Nat)(T:Nat→AV)(t:TypeId)(len:Nat)(ps:List (Nat×Operand)):wBS P z H n T t len ps.toArray (.bool true)=wBSl P H n t len (ps.map (·.1)) (ps.map fun p=>evO T p.2):=rfl
theorem wBS_ro(P:Program)(z:TypeId→AV)(H:Heap)(n:Nat)(T:Nat→AV)(t:TypeId)(len:Nat)(ps:Array (Nat×Operand)):wBS P z H n T t len ps .junk=(opQ P z H true T (.buildSlice t len ps)).map fun r=>(r.1,r.2,H,n):=rfl
attribute [go_sem] wBS_own wBS_ro Option.map_some Option.map_none
attribute [go_sem] k2 k3 k4 k5 k6 k7 k8 k9 k10 k11 k12 k13 k14 k15 k16 k17 k18 k19 k20 k21 k22 k23 k24 kne0 kne1 List.nil_append List.cons_append List.take_succ_cons List.take_zero List.set_cons_zero List.set_cons_succ Nat.zero_add Nat.add_zero Nat.zero_mul Nat.one_mul Nat.mul_one ne_eq not_false_eq_true AV.memOK.eq_5 put2 nlt1
attribute [go_sem] PK bys Y6 Zh entsAV Zd iv_int
theorem w64{n:Int}(h: -9223372036854775808≤n)(h':n<9223372036854775808):IntKind.i64.wrap n=n:=by
 rw[IntKind.wrap_i64];omega
theorem Wi{α:Type}[Inhabited α](l:List α)(i:Nat)(h:i<l.length):l.drop i=l.getD i default::l.drop (i+1):=by
 rw[List.drop_eq_getElem_cons h];simp[List.getD,List.getElem?_eq_getElem h]
theorem Frz.eq{H:Heap}{n:Nat}{a b:AV}(h:a=b)(hk:a.kl n):Frz H n a b:=h▸ .kl hk
def bout(x lo hi:Int):Bool:=decide (x<lo)||decide (hi<x)
def XC(b:UInt8):Bool:=decide (97≤(b.toNat:Int))&&decide ((b.toNat:Int)≤122)
def Vo(b:UInt8):Bool:= !(bif (bif !XC b then(bif decide ((b.toNat:Int)<48)then true else decide (57<(b.toNat:Int)))else false)then((b.toNat:Int) !=95)else false)
def Xp(s:List UInt8):Bool:= !(bout s.length 1 32)&&XC (s.getD 0 0)&&s.all Vo
def Xv:List Fml→List UInt8→Nat→Int
 | [],_,_=> -1
 | f::l,name,i=>if f.name=name then i else Xv l name (i+1)
def Vv(all:List Fml)(f:Fml)(i:Nat):Bool:= !(Xp f.name)||Xv all f.name 0 !=(i:Int)||bout f.max 1 16||bout f.ttl 0 1099511627776
def X5(all:List Fml):List Fml→Nat→Bool
 | [],_=>false
 | f::l,i=>Vv all f i||X5 all l (i+1)
def Zy(s:List Fml):Int:=if bout s.length 1 8 then 28 else if X5 s s 0 then 28 else 0
theorem w1{i:Nat}(h:i<4611686018427387904):IntKind.i64.wrap ((i:Int)+1)=((i+1:Nat):Int):=by
 rw[w64 om om];omega
theorem V9{x lo hi:Int}(h:bout x lo hi=false):lo≤x∧x≤hi:=by simp[bout]at h;omega
def Ent.fits(e:Ent):Prop:=e.row.length≤140737488355328∧e.qual.length≤140737488355328∧e.value.length≤140737488355328
def cmpI(x y:Int):Int:=if x<y then -1 else if y<x then 1 else 0
theorem Z4(b:List UInt8)(n:Nat):Rv n (b.map Zd):=by
 rw[Sq];intro x hx;obtain⟨y,_,rfl⟩:=List.mem_map.1 hx;trivial
theorem Xg(b:List UInt8)(n:Nat):(bys b).kl n:=Z4 b n
theorem kls_fams(l:List Fml)(n:Nat):Rv n (l.map Y6):=by
 rw[Sq];intro x hx;obtain⟨y,_,rfl⟩:=List.mem_map.1 hx;exact⟨trivial,trivial,trivial,trivial⟩
theorem kl_sch(l:List Fml)(n:Nat):(Zh l).kl n:=⟨kls_fams l n,trivial⟩
theorem NH{c:Ctx}:∀(b:List UInt8) (ds:List Value),RelF c (b.map Zd) ds→ds=b.map fun x=> .int .u8 x.toNat
 | [],ds,h=>by simpa [RelF]using h
 | x::b,ds,h=>by
   simp only[List.map_cons,RelF]at h;obtain⟨c1,c2,e,h1,h2⟩:=h;simp only[Zd,Rel]at h1;rw[e,h1,NH b c2 h2];rfl
theorem QC{P:Program}{c:Ctx}{H:Heap}{n:Nat}{w:World}(hs:Sim c H n w){b:List UInt8}{v:Value}(h:Rel c (bys b) false [v]):(Extern.Bytes.bytesOf v).run P w= .ok ⟨b.toArray⟩ w:=by
 simp only[bys,Rel,List.cons.injEq,and_true]at h;obtain⟨a,cap,rfl,_,_,hx⟩:=h;rcases hx with hx | ⟨bb,off,arr,ds,rfl,hb,hr,ha⟩
 ·have hb:b=[]:=by simpa using hx
  subst hb;cases a<;>rfl
 ·obtain⟨ty,fr,hw⟩:=hs.ro bb arr hb;have hds:=NH b ds hr;subst hds;have:=Lib.run_loadBytesX (P:=P) w (b.map fun x=>(x.toNat:Int)) ⟨bb,off,none⟩ .empty (fun j x hj=>by
    rw[Addr.add_plain];simp only[World.cell?,hw];have:=ha j (.int .u8 x) (by simp at hj ⊢;obtain⟨y,hy,e⟩:=hj;exact⟨y,hy,e⟩);simpa using this)
  simp only[qb]at this ⊢;show(Extern.Bytes.loadBytes ⟨bb,off,none⟩ b.length .empty).run P w=_;rw[this];congr 1;apply ByteArray.ext;show(#[]:Array UInt8)++(Lib.bytesOf (b.map fun x=>(x.toNat:Int))).toArray=b.toArray;simp[Lib.bytesOf,List.map_map,Function.comp_def]
theorem Md {P : Program} {f : FuncId} {fn : Func} {H : Heap} {n : Nat} {k : AV → Heap → Nat → Prop} (hf : P.funcs[f]? = some fn) (hb : fn.body = none) (hn : (fn.name == "runtime.NumGoroutine") = false)
   (h1:(Extern.findNext fn).isNone=true) (h2:Extern.find fn=some Extern.BytealgCompare.compare) (a b:List UInt8) (hk:k (.int .i64 (Lib.compareBytes a b)) H n):ExtC P f [bys a,bys b] H n k:=fun c w vs hs hr=>by
 simp only[RelT]at hr;obtain⟨v1,_,rfl,hr1,v2,_,rfl,hr2,rfl⟩:=hr;have h1':Extern.findNext fn=none:=by simpa using h1
 refine⟨_,.int .i64 (Lib.compareBytes a b),c,H,n,w,?_,.refl hs,by simp[Rel],hk⟩;have hc:(Extern.BytealgCompare.compare #[v1,v2]).run P w= .ok (.int .i64 (Lib.compareBytes a b)) w:=by
   change Sem.run P (do pure (goInt (Extern.BytealgCompare.cmp (←Extern.Bytes.bytesOf v1) (←Extern.Bytes.bytesOf v2)))) w=_;simp only[Sem.run_bind,QC hs hr1,QC hs hr2,Result.andThen_ok,Sem.run_pure];rw[Lib.cmp_eq];rfl
 have hn':¬fn.name= "runtime.NumGoroutine" :=by simpa using hn
 simp[callFunc,hf,hn',hb,h1',h2,hc]
theorem KW(all l:List Fml)(f:Fml)(i:Nat):X5 all (f::l) i=(Vv all f i||X5 all l (i+1)):=rfl
def intsAV(l:List Int):AV:= .sl 1 (l.map fun x=> .int .i64 x)
attribute [go_sem] intsAV
structure Ri where
 kind:Int
 fam:Int
 qual:List UInt8
 value:List UInt8
 deriving DecidableEq,Inhabited
structure OpE where
 kind:Int
 fam:Int
 qual:List UInt8
 ts:Int
 value:List UInt8
 delta:Int
 deriving DecidableEq,Inhabited
structure QryE where
 frm:List UInt8
 to:List UInt8
 fams:List Int
 pre:List UInt8
 time:Int
 n:Int
 rows:Int
 rev:Bool
 whr:List UInt8
 token:List UInt8
 deriving DecidableEq,Inhabited
structure CmdE where
 kind:Int
 client:Int
 serial:Int
 row:List UInt8
 conds:List Ri
 ops:List OpE
 n:Int
 q:QryE
 deriving DecidableEq,Inhabited
structure CelE where
 fam:Int
 qual:List UInt8
 ts:Int
 value:List UInt8
 deriving DecidableEq,Inhabited
structure RowE where
 row:List UInt8
 cells:List CelE
 deriving DecidableEq,Inhabited
structure RepE where
 err:Int
 held:Bool
 value:Int
 rows:List RowE
 token:List UInt8
 done:Bool
 deriving DecidableEq,Inhabited
def Zx(l:List Int):AV:= .sl 1 (l.map fun n=> .int .i64 n)
def Ze(q:QryE):AV:= .agg [bys q.frm,bys q.to,Zx q.fams,bys q.pre,.int .i64 q.time,.int .i64 q.n,.int .i64 q.rows,.bool q.rev,.str q.whr,bys q.token]
def Zj(c:CelE):AV:= .agg [.int .i64 c.fam,bys c.qual,.int .i64 c.ts,bys c.value]
def Zf(r:RowE):AV:= .agg [bys r.row,.sl 4 (r.cells.map Zj)]
theorem Yp(c:CelE):(Zj c).sz=4:=by simp[Zj,AV.sz,AV.szs,bys]
theorem Ws(c:RowE):(Zf c).sz=2:=by simp[Zf,AV.sz,AV.szs,bys]
theorem ZT(c:QryE):(Ze c).sz=10:=by simp[Ze,AV.sz,AV.szs,bys,Zx]
def Zi(v:Nat):List UInt8:=if h:v<128 then[UInt8.ofNat v]else UInt8.ofNat (v%128+128)::Zi (v/128)
termination_by v
decreasing_by omega
def u64(n:Int):Nat:=(n%18446744073709551616).toNat
def Zo(b:List UInt8):List UInt8:=Zi b.length++b
def Yb(n:Int):UInt8:=UInt8.ofNat (n%256).toNat
def flagB(b:Bool):List UInt8:=[if b then 1 else 0]
def Mf(n:Int):List UInt8:=[56,48,40,32,24,16,8,0].map fun i=>Yb (n/2^(i:Nat))
def V3(x:Ri):List UInt8:=Yb x.kind::Yb x.fam::(Zo x.qual++Zo x.value)
def opB(x:OpE):List UInt8:=Yb x.kind::Yb x.fam::(Zo x.qual++Zi (u64 x.ts)++Zo x.value++Mf x.delta)
def qryB(q:QryE):List UInt8:=
 Zo q.frm++Zo q.to++Zi q.fams.length++(q.fams.flatMap fun f=>Zi (u64 f))++Zo q.pre++Zi (u64 q.time)++Zi (u64 q.n)++Zi (u64 q.rows)++flagB q.rev++Zo q.whr++Zo q.token
def cmdB(c:CmdE):List UInt8:=
 Yb c.kind::((if 3≤c.kind then Zi (u64 c.client)++Zi (u64 c.serial)else[])++
   (if c.kind=4 then Zo c.row++Zi c.conds.length++c.conds.flatMap V3++Zi c.ops.length++c.ops.flatMap opB
    else if c.kind=5∨c.kind=6 then Zi (u64 c.n)else if c.kind=7 then qryB c.q else[]))
def condOK(nf:Nat)(c:Ri):Bool:= !bout c.kind 1 6&& !bout c.fam 0 ((nf:Int)-1)&&decide ((c.qual.length:Int)≤256)&&decide ((c.value.length:Int)≤4096)&&(!(c.kind==1||c.kind==2)||(c.value.length:Int)==0)
def opOK(nf:Nat)(o:OpE):Bool:=
 !(bout o.kind 1 5||bout o.fam 0 ((nf:Int)-1)||decide (256<(o.qual.length:Int))||bout o.ts 0 1099511627776||decide (4096<(o.value.length:Int)))&&
 !((o.kind==4&&decide (0<(o.qual.length:Int)))||(o.kind==5&&o.ts !=0)||(o.kind !=1&&decide (0<(o.value.length:Int))))&&(o.kind==5||o.delta==0)
end Go.Rt
namespace Go.Sx
open Go Go.ChangeShapes
def c0(W:World):Ctx:=⟨fun _ _=>none,fun b=>match W.heap[b]? with | some (.cells a _ _)=>some a | _=>none⟩
theorem sim0(W:World):Sim (c0 W) (fun _=>none) 0 W where
 ro:=fun b a h=>by
   simp only[c0]at h;split at h
   ·rename_i a' ty fr hb;simp only[Option.some.injEq]at h;subst h;exact⟨ty,fr,hb⟩
   ·simp at h
 own:=fun k o h=>by simp at h
 sep:=fun k o b h=>by simp at h
 inj:=fun k k' o o' b h=>by simp at h
 fresh:=fun k _=>⟨rfl,fun v=>rfl⟩
 vers:=fun k o v h=>by simp at h
structure Mt{H:Type}(B:DataW H→Nat):Prop where
 lit:∀l,1≤B (.lit l)
 str:∀s:List UInt8,s.length≤B (.lit (.string s))
 nil:1≤B .nil
 slice:∀es sp,(es.map B).sum+1≤B (.slice es sp)
 agg:∀ps,(ps.map B).sum+1≤B (.agg ps)
section
variable {H:Type}(enc:TypeId×Value→H)(P:Program)(W:World)(B:DataW H→Nat)
def Reads(t:TypeId)(S:AV→Nat→Prop):Prop:=
 ∀fuel cs x,DataW.trod enc P W 0 (fun _=>true) true fuel t cs=some x→∃a m,S a m∧Rel (c0 W) a true cs∧m≤B x.1
variable {enc P W B}
theorem reads_int(hB:Mt B){t:TypeId}{k:IntKind}(hu:P.underlying t=some (.int k)):Reads enc P W B t fun a m=>∃n,a= .int k n∧(Lit.int k n).wf=true∧m=1:=fun fuel cs x h=>by
 obtain⟨n,rfl,rfl,hw⟩:=DataW.trod_int hu h;exact⟨_,1,⟨n,rfl,hw,rfl⟩,by simp[Rel],hB.lit _⟩
theorem reads_bool(hB:Mt B){t:TypeId}(hu:P.underlying t=some .bool):Reads enc P W B t fun a m=>∃b,a= .bool b∧m=1:=fun fuel cs x h=>by
 obtain⟨b,rfl,rfl⟩:=DataW.trod_bool hu h;exact⟨_,1,⟨b,rfl,rfl⟩,by simp[Rel],hB.lit _⟩
theorem reads_str(hB:Mt B){t:TypeId}(hu:P.underlying t=some .string):Reads enc P W B t fun a m=>∃s,a= .str s∧m=s.length:=fun fuel cs x h=>by
 obtain⟨s,rfl,rfl,_⟩:=DataW.trod_string hu h;exact⟨_,_,⟨s.data.toList,rfl,rfl⟩,by simp[Rel],hB.str _⟩
def sSl(esz:Nat)(S:AV→Nat→Prop)(a:AV)(m:Nat):Prop:=∃xs:List (AV×Nat),a= .sl esz (xs.map (·.1))∧(∀y∈xs,S y.1 y.2)∧m=(xs.map (·.2)).sum+1
theorem relF_flat{c:Ctx}(f:Nat→AV)(g:Nat→List Value):∀(l:List Nat),(∀i∈l,Rel c (f i) true (g i))→RelF c (l.map f) (l.flatMap g)
 | [],_=>by simp[RelF]
 | i::l,h=>by
   simp only[List.map_cons,List.flatMap_cons,RelF];exact⟨_,_,rfl,h i osi,relF_flat f g l fun j hj=>h j (by simp[hj])⟩
theorem at_flat{arr:Array Value}{off esz:Nat}(g:Nat→List Value):∀(n s:Nat),(∀i,s≤i→i<s+n→(g i).length=esz∧At arr (off+i*esz) (g i))→At arr (off+s*esz) ((List.range' s n).flatMap g)
 | 0,s,_=>by simp;exact At.nil
 | n+1,s,h=>by
   rw[List.range'_succ,List.flatMap_cons];obtain⟨h1,h2⟩:=h s (Nat.le_refl _) om;refine At.append.2 ⟨h2,?_⟩;rw[h1];have:=at_flat g n (s+1) fun i hi hi'=>h i om om;rw[Nat.add_mul,Nat.one_mul,←qg]at this;exact this
theorem sum_le{α:Type}(f g:α→Nat):∀(l:List α),(∀x∈l,f x≤g x)→(l.map f).sum≤(l.map g).sum
 | [],_=>osi
 | x::l,h=>by
   simp only[List.map_cons,List.sum_cons];have:=sum_le f g l fun y hy=>h y (by simp[hy]);have:=h x osi;omega
theorem Uj(hB : Mt B){t e : TypeId}{esz : Nat}{S : AV → Nat → Prop}(hu : P.underlying t = some (.slice e))(hsz : P.cellsOf e = esz)(hpos : 0 < esz)(hS : Reads enc P W B e S)(hSz : ∀ a m, S a m → a.sz = esz):
   Reads enc P W B t (sSl esz S):=fun fuel cs x h=>by
 subst hsz;rcases DataW.trod_slice hu h with⟨rfl,rfl⟩ | ⟨a,len,cap,elems,rest,n,rfl,rfl,rfl,_,hl,hm,hlen,hel,_,_⟩
 ·refine⟨.sl (P.cellsOf e) [],1,⟨[],rfl,osi,rfl⟩,?_,hB.nil⟩;simp only[Rel];exact⟨none,0,rfl,Nat.le_refl _,osi,.inl trivial⟩
 ·have each : ∀ i, i < len → ∃ (y : AV × Nat) (ci : List Value), W.cells? 0 (a.add (i * P.cellsOf e)) (P.cellsOf e) = some ci ∧ S y.1 y.2 ∧ Rel (c0 W) y.1 true ci ∧ ∀ z, elems[i]? = some z → y.2 ≤ B z.1 := fun i hi => by
    have hz:elems[i]? =some elems[i]:=List.getElem?_eq_getElem om;have h1:=hel i hi;rw[hz]at h1;simp only[Option.bind_eq_some_iff]at h1;obtain⟨ci,h1,h2⟩:=h1;obtain⟨aa,m,h3,h4,h5⟩:=hS _ _ _ h2;exact⟨(aa,m),ci,h1,h3,h4,fun z hz'=>by rw[hz]at hz';cases hz';exact h5⟩
  have each':∀i,∃(y:AV×Nat) (ci:List Value),i<len→W.cells? 0 (a.add (i*P.cellsOf e)) (P.cellsOf e)=some ci∧S y.1 y.2∧Rel (c0 W) y.1 true ci∧∀z,elems[i]? =some z→y.2≤B z.1:=fun i=>by
    by_cases hi:i<len
    ·obtain⟨y,ci,h⟩:=each i hi;exact⟨y,ci,fun _=>h⟩
    ·exact⟨(.junk,0),[],fun h=>absurd h hi⟩
  let f:Nat→AV×Nat:=fun i=>Classical.choose (each' i)
  let g:Nat→List Value:=fun i=>Classical.choose (Classical.choose_spec (each' i))
  have hfg:∀i,i<len→W.cells? 0 (a.add (i*P.cellsOf e)) (P.cellsOf e)=some (g i)∧S (f i).1 (f i).2∧Rel (c0 W) (f i).1 true (g i)∧∀z,elems[i]? =some z→(f i).2≤B z.1:=fun i=>Classical.choose_spec (Classical.choose_spec (each' i))
  clear_value f g
  refine⟨.sl (P.cellsOf e) (((List.range' 0 len).map f).map (·.1)),_,⟨(List.range' 0 len).map f,rfl,?_,rfl⟩,?_,?_⟩
  ·intro y hy;obtain⟨i,hi,rfl⟩:=List.mem_map.1 hy;exact(hfg i (by simpa using hi)).2.1
  ·simp only[Rel];refine⟨some a,cap,osi,by simpa using hl,?_,?_⟩
   ·intro x hx;simp only[List.map_map,List.mem_map,List.mem_range'_1]at hx;obtain⟨i,hi,rfl⟩:=hx;exact hSz _ _ (hfg i om).2.1
   ·by_cases h0:len=0
    ·left;subst h0;rfl
    ·right;obtain⟨b,off,spot⟩:=a;have hc0:=(World.cells?_some (hfg 0 om).1).2.2 0 hpos;have hl0:=(World.cells?_some (hfg 0 om).1).2.1;have hv:∃v,(g 0)[0]? =some v:=⟨(g 0)[0],List.getElem?_eq_getElem om⟩;obtain⟨v,hv⟩:=hv;rw[hv]at hc0;have hspot:spot=none:=by simpa [Addr.add]using World.cell?_spot hc0
     subst hspot;have harr:∃arr ty fr,W.heap[b]? =some (.cells arr ty fr):=by
       simp only[Nat.zero_mul,Addr.add,if_true]at hc0;unfold World.cell? at hc0;cases hb:W.heap[b]? with
       | none=>simp[hb]at hc0
       | some o=>cases o<;>simp[hb]at hc0 ⊢
     obtain⟨arr,ty,fr,hb⟩:=harr;refine⟨b,off,arr,(List.range' 0 len).flatMap g,rfl,by simp[c0,hb],?_,?_⟩
     ·rw[List.map_map];exact relF_flat _ g _ fun i hi=>(hfg i (by simpa using hi)).2.2.1
     ·have := at_flat (arr := arr) (off := off) (esz := P.cellsOf e) g len 0 fun i _ hi => by
        obtain⟨_,h2,h3⟩:=World.cells?_some (hfg i om).1;refine⟨h2,fun j v hj=> ?_⟩;have hjl:j<P.cellsOf e:=by
          rcases Nat.lt_or_ge j (g i).length with h | h
          ·omega
          ·rw[List.getElem?_eq_none h]at hj;simp at hj
        have h4:=h3 j hjl;rw[hj,Addr.add_plain,Addr.add_plain]at h4;simp only[World.cell?,hb]at h4;simpa using h4
      simpa using this
  ·have h1 : (((List.range' 0 len).map f).map (·.2)).sum ≤ ((elems.map (·.1)).map B).sum := by
     have e1:elems=(List.range' 0 len).map fun i=>(elems[i]?).getD (.nil,[]):=by
       apply List.ext_getElem?;intro i;by_cases hi:i<len
       ·simp[List.getElem?_map,List.getElem?_range' hi,List.getElem?_eq_getElem (show i<elems.length by omega)]
       ·rw[List.getElem?_eq_none om,List.getElem?_eq_none oz]
     have e2:((elems.map (·.1)).map B)=(List.range' 0 len).map fun i=>B ((elems[i]?).getD (.nil,[])).1:=by
       conv=>lhs;rw[e1]
       simp[List.map_map,Function.comp_def]
     rw[e2,List.map_map];refine sum_le _ _ _ fun i hi=> ?_;have hi':i<len:=by simpa using hi
     exact(hfg i hi').2.2.2 _ (by rw[List.getElem?_eq_getElem (show i<elems.length by omega)];rfl)
   have h2:=hB.slice (elems.map (·.1)) (rest.map (·.1));show _≤B (.slice _ _);omega
def SAll:List (AV→Nat→Prop)→List (AV×Nat)→Prop
 | [],[]=>True
 | S::Ss,x::xs=>S x.1 x.2∧SAll Ss xs
 | _,_=>False
def sAgg(Ss:List (AV→Nat→Prop))(a:AV)(m:Nat):Prop:=∃xs:List (AV×Nat),a= .agg (xs.map (·.1))∧SAll Ss xs∧m=(xs.map (·.2)).sum+1
variable (enc P W B) in
def J7:List Field→List (AV→Nat→Prop)→Nat→Nat→Prop
 | [],[],off,total=>off=total
 | f::fs,S::Ss,off,total=>f.offset=off∧Reads enc P W B f.type S∧J7 fs Ss (off+P.cellsOf f.type) total
 | _,_,_,_=>False
theorem Px{n : Nat}{cs : List Value}: ∀ (fs : List Field) (Ss : List (AV → Nat → Prop)) (off : Nat) (ys : List (DataW H × List MemPlace)), J7 enc P W B fs Ss off cs.length → ys.length = fs.length →
   (∀(i:Nat) (f:Field),fs[i]? =some f→DataW.trod enc P W 0 (fun _=>true) true n f.type ((cs.drop f.offset).take (P.cellsOf f.type))=ys[i]?)→
   ∃xs,SAll Ss xs∧RelF (c0 W) (xs.map (·.1)) (cs.drop off)∧(xs.map (·.2)).sum≤((ys.map (·.1)).map B).sum
 | [],[],off,ys,hf,hl,_=>by
   simp only[J7]at hf;refine⟨[],trivial,?_,osi⟩;simp only[List.map_nil,RelF];exact List.drop_eq_nil_of_le om
 | f::fs,S::Ss,off,ys,hf,hl,hy=>by
   simp only[J7]at hf;obtain⟨ho,hr,hf⟩:=hf;cases ys with
   | nil=>simp at hl
   | cons y ys=>
     have h0:=hy 0 f rfl;simp only[List.getElem?_cons_zero]at h0;obtain⟨a,m,h1,h2,h3⟩:=hr _ _ _ h0;obtain⟨xs,h4,h5,h6⟩:=Px fs Ss (off+P.cellsOf f.type) ys hf (by simpa using hl) fun i f' hi=>by
       have:=hy (i+1) f' (by simpa using hi);simpa using this
     refine⟨(a,m)::xs,⟨h1,h4⟩,?_,by simp only[List.map_cons,List.sum_cons];omega⟩;simp only[List.map_cons,RelF];refine⟨(cs.drop off).take (P.cellsOf f.type),cs.drop (off+P.cellsOf f.type),?_,by rw[←ho];exact h2,h5⟩;rw[←List.drop_drop,List.take_append_drop]
 | [],_::_,_,_,hf,_,_=>by simp[J7]at hf
 | _::_,[],_,_,hf,_,_=>by simp[J7]at hf
theorem Qd(hB:Mt B){t:TypeId}{fs:Array Field}{Ss:List (AV→Nat→Prop)}(hu:P.underlying t=some (.struct fs))(hf:J7 enc P W B fs.toList Ss 0 (P.cellsOf t)):Reads enc P W B t (sAgg Ss):=fun fuel cs x h=>by
 obtain⟨ys,n,rfl,rfl,hl,hyl,hy⟩:=DataW.trod_struct hu h;rw[←hl]at hf;obtain⟨xs,h1,h2,h3⟩:=Px fs.toList Ss 0 ys hf (by simpa using hyl) fun i f hi=>hy i f (by simpa using hi);refine⟨.agg (xs.map (·.1)),_,⟨xs,rfl,h1,rfl⟩,by simp only[Rel];simpa using h2,?_⟩;have:=hB.agg (ys.map (·.1));show _≤B (.agg _);omega
theorem LK{t : TypeId}{S : AV → Nat → Prop}(hr : Reads enc P W B t S){v : Value}{d : DataW H}{ps : List MemPlace}(h : DataW.Trod enc P W 0 (fun _ => true) true t v d ps):
   ∃a m,S a m∧Rel (c0 W) a true v.cells.toList∧m≤B d:=by
 obtain⟨fuel,h⟩:=h;exact hr _ _ _ h
end
theorem rel_flat{c:Ctx}{a:AV}{v:Value}(h:Rel c a true v.cells.toList)(ha:a.isAgg=true→∃cs,v= .agg cs)(hn:a.isAgg=false→v.cells= #[v]):Rel c a false [v]:=by
 cases hag:a.isAgg with
 | true=>
   obtain⟨cs,rfl⟩:=ha hag;cases a<;>simp[AV.isAgg]at hag;simp only[Rel]at h ⊢;exact⟨cs,rfl,h⟩
 | false=>
   rw[hn hag]at h;cases a<;>simp only[Rel]at h ⊢<;>first | exact h | (simp[AV.isAgg]at hag;done) | skip
   ·exact⟨h.1,fun h=>by simp at h⟩
   ·obtain⟨x,h1,_⟩:=h;exact⟨x,h1,fun h=>by simp at h⟩
theorem Kw{α : Type}{esz : Nat}{S : AV → Nat → Prop}{f : α → AV}{q : α → Nat}(h : ∀ a m, S a m → ∃ x, a = f x ∧ q x ≤ m ∧ 1 ≤ m){a : AV}{m : Nat}(hs : sSl esz S a m):
   ∃l:List α,a= .sl esz (l.map f)∧l.length+1≤m∧∀x∈l,q x≤m:=by
 obtain⟨xs,rfl,hx,rfl⟩:=hs
 suffices hh:∃l:List α,xs.map (·.1)=l.map f∧l.length≤(xs.map (·.2)).sum∧∀x∈l,q x≤(xs.map (·.2)).sum by
   obtain⟨l,h1,h2,h3⟩:=hh;exact⟨l,by rw[h1],om,fun x hx=>by have:=h3 x hx;omega⟩
 induction xs with
 | nil=>exact⟨[],rfl,osi,osi⟩
 | cons y ys ih=>
   obtain⟨l,h1,h2,h3⟩:=ih fun z hz=>hx z (by simp[hz]);obtain⟨x,h4,h5,h6⟩:=h y.1 y.2 (hx y osi);refine⟨x::l,by simp[h1,h4],oz,fun z hz=> ?_⟩;simp only[List.map_cons,List.sum_cons];rcases List.mem_cons.1 hz with rfl | hz
   ·omega
   ·have:=h3 z hz;omega
theorem ZE{S:AV→Nat→Prop}{Ss:List (AV→Nat→Prop)}{xs:List (AV×Nat)}(h:SAll (S::Ss) xs):∃x ys,xs=x::ys∧S x.1 x.2∧SAll Ss ys:=by
 cases xs with
 | nil=>exact h.elim
 | cons x ys=>exact⟨x,ys,rfl,h.1,h.2⟩
theorem Jo{xs:List (AV×Nat)}(h:SAll [] xs):xs=[]:=by
 cases xs with
 | nil=>rfl
 | cons x ys=>exact h.elim
theorem YR{H:Type}{enc:TypeId×Value→H}{P:Program}{W:World}{B:DataW H→Nat}{f:Field}{fs:List Field}{S:AV→Nat→Prop}{Ss:List (AV→Nat→Prop)}{off off' total:Nat}
 (h1:f.offset=off) (h2:Reads enc P W B f.type S) (h3:off+P.cellsOf f.type=off') (h4:J7 enc P W B fs Ss off' total):J7 enc P W B (f::fs) (S::Ss) off total:=⟨h1,h2,h3▸h4⟩
theorem fld_nil{H:Type}{enc:TypeId×Value→H}{P:Program}{W:World}{B:DataW H→Nat}{off total:Nat}(h:off=total):J7 enc P W B [] [] off total:=h
end Go.Sx
set_option maxRecDepth 10000
namespace Go.Proofs.YtkmkbndcekklmaaGreatDoor
open Go Go.Sx Go.Rt Go.Proofs Go.ChangeShapes Go.WideShapes Go.ChangeAt Go.RowKit Tryz
theorem own9:ownKnob prog.godebug=none:=by kernel_rfl
theorem laid9:laidOutB prog=true:=by kernel_rfl
theorem Jk{H:Type}:∀(l:List (DataW H)),Rows.uptoBulkAll l=(l.map Rows.uptoBulk).sum
 | []=>by simp[Rows.uptoBulkAll]
 | d::l=>by simp only[Rows.uptoBulkAll,List.map_cons,List.sum_cons];rw[Jk l]
theorem Ve{H:Type}:Mt (Rows.uptoBulk (H:=H)) where
 lit:=fun l=>by cases l<;>simp[Rows.uptoBulk]
 str:=fun s=>by simp[Rows.uptoBulk]
 nil:=by simp[Rows.uptoBulk]
 slice:=fun es sp=>by simp only[Rows.uptoBulk];rw[Jk es];omega
 agg:=fun ps=>by simp only[Rows.uptoBulk];rw[Jk ps];omega
section
variable {H:Type}{enc:TypeId×Value→H}{W:World}
def S64(a:AV)(m:Nat):Prop:=∃n,a= .int .i64 n∧(Lit.int .i64 n).wf=true∧m=1
def SU8(a:AV)(m:Nat):Prop:=∃n,a= .int .u8 n∧(Lit.int .u8 n).wf=true∧m=1
def SStr(a:AV)(m:Nat):Prop:=∃s,a= .str s∧m=s.length
def SBys:=sSl 1 SU8
def SBool(a:AV)(m:Nat):Prop:=∃b,a= .bool b∧m=1
def SInts:=sSl 1 S64
theorem s64_sz(a:AV)(m:Nat)(h:S64 a m):a.sz=1:=by obtain⟨n,rfl,_⟩:=h;rfl
theorem su8_sz(a:AV)(m:Nat)(h:SU8 a m):a.sz=1:=by obtain⟨n,rfl,_⟩:=h;rfl
theorem Vh{a:AV}{m:Nat}(h:SBys a m):∃b:List UInt8,a=bys b∧b.length+1≤m:=by
 obtain⟨l,h1,h2,_⟩:=Kw (f:=Zd) (q:=fun _=>0) (fun a m ⟨n,h1,h2,h3⟩=>⟨UInt8.ofNat n.toNat,by
   have hw:0≤n∧n≤255:=by simpa [Lit.wf,IntKind.min,IntKind.max,IntKind.signed,IntKind.bits]using h2
   rw[h1];simp only[Zd];have:(UInt8.ofNat n.toNat).toNat=n.toNat:=oz;rw[this];congr 1;omega,Nat.zero_le _,om⟩) h
 exact⟨l,h1,h2⟩
def SQry:=sAgg [SBys,SBys,SInts,SBys,S64,S64,S64,SBool,SStr,SBys]
def SCel:=sAgg [S64,SBys,S64,SBys]
theorem sCel_av{a:AV}{m:Nat}(h:SCel a m):∃x:CelE,a=Zj x∧1≤m:=by
 obtain⟨xs,rfl,hx,rfl⟩:=h;obtain⟨x0,xs,rfl,h0,hx⟩:=ZE hx;obtain⟨x1,xs,rfl,h1,hx⟩:=ZE hx;obtain⟨x2,xs,rfl,h2,hx⟩:=ZE hx;obtain⟨x3,xs,rfl,h3,hx⟩:=ZE hx;obtain rfl:=Jo hx;obtain⟨n0,e0,_,_⟩:=h0;obtain⟨n1,e1,_⟩:=Vh h1;obtain⟨n2,e2,_,_⟩:=h2;obtain⟨n3,e3,_⟩:=Vh h3;exact⟨⟨n0,n1,n2,n3⟩,by simp[Zj,e0,e1,e2,e3],om⟩
def SRow:=sAgg [SBys,(sSl 4 SCel)]
theorem sRow_av{a:AV}{m:Nat}(h:SRow a m):∃x:RowE,a=Zf x∧1≤m∧x.cells.length≤m:=by
 obtain⟨xs,rfl,hx,rfl⟩:=h;obtain⟨x0,xs,rfl,h0,hx⟩:=ZE hx;obtain⟨x1,xs,rfl,h1,hx⟩:=ZE hx;obtain rfl:=Jo hx;obtain⟨n0,e0,_⟩:=Vh h0;obtain⟨n1,e1,hl,_⟩:=Kw (f:=Zj) (q:=fun _=>0) (fun a m h=>by obtain⟨e,h1,h2⟩:=sCel_av h;exact⟨e,h1,Nat.zero_le _,h2⟩) h1;exact⟨⟨n0,n1⟩,by simp[Zf,e0,e1],om,by show n1.length≤_;simp only[List.map_cons,List.map_nil,List.sum_cons,List.sum_nil];omega⟩
theorem i64_bd{n:Int}(h:(Lit.int .i64 n).wf=true): -9223372036854775808≤n∧n<9223372036854775808:=by
 have h: -9223372036854775808≤n∧n≤9223372036854775807:=by simpa [Lit.wf,IntKind.min,IntKind.max,IntKind.signed,IntKind.bits]using h
 omega
theorem r64:Reads enc prog W Rows.uptoBulk 3 S64:=reads_int Ve underlying3
theorem rBys:Reads enc prog W Rows.uptoBulk 22 SBys:=Uj Ve underlying22 (by kernel_rfl) odc (reads_int Ve underlying5) su8_sz
theorem rBool:Reads enc prog W Rows.uptoBulk 4 SBool:=reads_bool Ve underlying4
theorem rStr:Reads enc prog W Rows.uptoBulk 9 SStr:=reads_str Ve underlying9
theorem rInts:Reads enc prog W Rows.uptoBulk 23 SInts:=Uj Ve underlying23 (by kernel_rfl) odc r64 s64_sz
theorem rQry:Reads enc prog W Rows.uptoBulk 25 SQry:=Qd Ve underlying25
 (YR rfl rBys (off':=1) (by kernel_rfl) (YR rfl rBys (off':=2) (by kernel_rfl) (YR rfl rInts (off':=3) (by kernel_rfl) (YR rfl rBys (off':=4) (by kernel_rfl) (YR rfl r64 (off':=5) (by kernel_rfl) (YR rfl r64 (off':=6) (by kernel_rfl) (YR rfl r64 (off':=7) (by kernel_rfl) (YR rfl rBool (off':=8) (by kernel_rfl) (YR rfl rStr (off':=9) (by kernel_rfl) (YR rfl rBys (off':=10) (by kernel_rfl) (fld_nil (by kernel_rfl))))))))))))
theorem rCel:Reads enc prog W Rows.uptoBulk 103 SCel:=Qd Ve underlying103
 (YR rfl r64 (off':=1) (by kernel_rfl) (YR rfl rBys (off':=2) (by kernel_rfl) (YR rfl r64 (off':=3) (by kernel_rfl) (YR rfl rBys (off':=4) (by kernel_rfl) (fld_nil (by kernel_rfl))))))
theorem rCels:Reads enc prog W Rows.uptoBulk 94 (sSl 4 SCel):=Uj Ve underlying94 (by kernel_rfl) odc rCel fun a m h=>by obtain⟨x,rfl,_⟩:=sCel_av h;exact Yp x
theorem rRow:Reads enc prog W Rows.uptoBulk 96 SRow:=Qd Ve underlying96
 (YR rfl rBys (off':=1) (by kernel_rfl) (YR rfl rCels (off':=2) (by kernel_rfl) (fld_nil (by kernel_rfl))))
theorem rRows:Reads enc prog W Rows.uptoBulk 26 (sSl 2 SRow):=Uj Ve underlying26 (by kernel_rfl) odc rRow fun a m h=>by obtain⟨x,rfl,_⟩:=sRow_av h;exact Ws x
end
end Go.Proofs.YtkmkbndcekklmaaGreatDoor
namespace Go.Rt
open Go Go.Sx
structure Dec where
 e:Ent
 husk:Bool
 nothing:Bool
 masked:Bool
 expired:Bool
 rank:Int
 deriving Inhabited
def decAV(d:Dec):AV:= .agg [PK d.e,.bool d.husk,.bool d.nothing,.bool d.masked,.bool d.expired,.int .i64 d.rank]
attribute [go_sem] decAV
structure Wlk where
 s:List Fml
 clock:Int
 any:Bool
 last:Ent
 famMask:Int
 colMask:Int
 rank:Int
 opn:Bool
 ge:Ent
 lone:Bool
 deriving Inhabited
structure Tk(P:Program) where
 σ:Type
 kw:Nat
 recv:AV
 g:FuncId
 o:FuncId
 m:FuncId
 fg:∃fn,P.funcs[g]? =some fn∧fn.body.isSome=true∧(fn.name== "runtime.NumGoroutine")=false
 fo:∃fn,P.funcs[o]? =some fn∧fn.body.isSome=true∧(fn.name== "runtime.NumGoroutine")=false
 fm:∃fn,P.funcs[m]? =some fn∧fn.body.isSome=true∧(fn.name== "runtime.NumGoroutine")=false
 keys:Nat→Prop
 kwn:¬keys kw
 holds:σ→Heap→Nat→Prop
 ext:∀st H H' n n',n≤n'→(∀k,k<n→k≠kw→H' k=H k)→holds st H n→holds st H' n'
 grp:List Fml→σ→Dec→σ
 old:σ→σ
 mrk:σ→Ent→Bool→σ
def tkAV{P:Program}(T:Tk P):AV:= .agg [.fn (.func T.g) [T.recv] [],.fn (.func T.o) [T.recv] [],.fn (.func T.m) [T.recv] []]
def walkAV{P:Program}(T:Tk P)(w:Wlk):AV:= .agg [Zh w.s,.int .i64 w.clock,tkAV T,.bool w.any,PK w.last,.int .i64 w.famMask,.int .i64 w.colMask,.int .i64 w.rank,.bool w.opn,.agg [PK w.ge,.bool w.lone]]
attribute [go_sem] tkAV walkAV
structure Left{P:Program}(T:Tk P)(H:Heap)(n:Nat)(w:Wlk)(st:T.σ)(H':Heap)(n':Nat):Prop where
 le:n≤n'
 walk:H' T.kw=some (.arr 0 25 [walkAV T w])
 tk:T.holds st H' n'
 rest:∀k,k<n→k≠T.kw→¬T.keys k→H' k=H k
def LeftU{P:Program}(T:Tk P)(H:Heap)(n:Nat)(w:Wlk)(st:T.σ)(res:ARes)(H':Heap)(n':Nat):Prop:=res= .val (.tup [])∧Left T H n w st H' n'
structure Ahead{P:Program}(T:Tk P)(H:Heap)(n:Nat)(w:Wlk)(st:T.σ):Prop where
 kw:T.kw<n
 keys:∀k,T.keys k→k<n
 walk:H T.kw=some (.arr 0 25 [walkAV T w])
 tk:T.holds st H n
structure TkOK{P:Program}(T:Tk P)(ok:T.σ→Prop):Prop where
 cg:∀(w:Wlk) (st:T.σ) (d:Dec) (H:Heap) (n:Nat),Ahead T H n w st→ok st→0≤d.e.fam→d.e.fam<w.s.length→d.e.fits→Zn P T.g [T.recv,decAV d] H n (LeftU T H n w (T.grp w.s st d))
 co:∀(w:Wlk) (st:T.σ) (H:Heap) (n:Nat),Ahead T H n w st→ok st→Zn P T.o [T.recv] H n (LeftU T H n w (T.old st))
 cm:∀(w:Wlk) (st:T.σ) (e:Ent) (b:Bool) (H:Heap) (n:Nat),Ahead T H n w st→ok st→e.fits→Zn P T.m [T.recv,PK e,.bool b] H n (LeftU T H n w (T.mrk st e b))
theorem Zw{P : Program}{f : FuncId}{fn : Func}{first captured args args' : List AV}{H : Heap}{n : Nat}{k kp : AV → Heap → Nat → Prop}{K0 : ARes → Heap → Nat → Prop}
   (hf:P.funcs[f]? =some fn) (hb:fn.body.isSome=true) (hn:(fn.name== "runtime.NumGoroutine")=false) (ha:first++args++captured=args') (h:Zn P f args' H n K0)
   (hk:∀r H' n',K0 (.val r) H' n'→k r H' n') (hp:∀p H' n',K0 (.pan p) H' n'→kp p H' n'):Vr P (.fn (.func f) first captured) args H n k kp:=by
 rw[PQ];exact .inl ⟨⟨fn,hf,hb,hn⟩,by rw[ha];exact h.mono fun r H n hr=>by cases r<;>first | exact hk _ _ _ hr | exact hp _ _ _ hr⟩
theorem Left.up{P:Program}{T:Tk P}{H H1 H':Heap}{n n1 n':Nat}{w:Wlk}{st:T.σ}(h:Left T H1 n1 w st H' n')(hn:n≤n1)(hr:∀k,k<n→k≠T.kw→¬T.keys k→H1 k=H k):Left T H n w st H' n':=
 ⟨Nat.le_trans hn h.le,h.walk,h.tk,fun k hk h1 h2=>(h.rest k om h1 h2).trans (hr k hk h1 h2)⟩
structure WOK(w:Wlk):Prop where
 fam:w.opn=true→0≤w.ge.fam∧w.ge.fam<w.s.length∧w.ge.fits∧0≤w.ge.ts∧w.ge.ts≤1099511627776
 ttl:∀f∈w.s,0≤f.ttl∧f.ttl≤1099511627776
 rank:0≤w.rank∧w.rank<4611686018427387904
structure Amid{P:Program}(T:Tk P)(H:Heap)(n:Nat)(e:Ent)(w:Wlk)(st:T.σ)(T':Nat→AV)(H':Heap)(n':Nat):Prop where
 t0:T' 0= .loc T.kw 0 0 0 []
 t3:T' 3= .loc n 0 0 0 []
 en:H' n=some (.arr 0 7 [PK e])
 le:n+1≤n'
 walk:H' T.kw=some (.arr 0 25 [walkAV T w])
 tk:T.holds st H' n'
 rest:∀k,k<n→k≠T.kw→¬T.keys k→H' k=H k
section
variable {P:Program}{T:Tk P}{H H1:Heap}{n n1:Nat}{e:Ent}{w':Wlk}{st:T.σ}
end
def Yi(s:List Fml)(e:Ent):Prop:=0≤e.fam∧e.fam<s.length∧e.fits∧0≤e.ts∧e.ts≤1099511627776
structure WRk(s:List Fml)(r:Int)(w:Wlk):Prop where
 sch:w.s=s
 fam:w.opn=true→Yi s w.ge
 lo:0≤w.rank
 hi:w.rank≤r
structure TkInv{P:Program}(T:Tk P)(ok:T.σ→Prop)(M:Nat)(inv:Nat→T.σ→Prop):Prop where
 ok:∀i st,i≤M→inv i st→ok st
 up:∀i st,inv i st→inv (i+1) st
 g:∀i s st d,inv i st→inv (i+1) (T.grp s st d)
 o:∀i st,inv i st→inv (i+1) (T.old st)
 m:∀i st e b,inv i st→inv (i+1) (T.mrk st e b)
structure KSt where
 major:Bool
 low:Int
 out:List Ent
 older:Int
 masked:Int
 expired:Int
 above:Int
 marks:Int
def KSt.ok(s:KSt):Prop:=0≤s.older∧0≤s.masked∧0≤s.expired∧0≤s.above∧0≤s.marks∧s.older+s.masked+s.expired+s.above+s.marks+s.out.length≤1000000000000
inductive Ev where
 | g (d:Dec)
 | o
 | m (e:Ent) (b:Bool)
section
variable {P:Program}(T:Tk P)
end
structure SSt where
 t:Int
 n:Int
 out:List Ent
 count:Int
 last:Ent
end Go.Rt
namespace Go.Sx
variable {α:Type}
structure Ord(lt:α→α→Bool):Prop where
 tr:∀x y z,lt y x=false→lt z y=false→lt z x=false
 asym:∀x y,lt x y=true→lt y x=false
def Srt(lt:α→α→Bool)(l:List α):Prop:=l.Pairwise fun x y=>lt y x=false
variable {lt:α→α→Bool}
theorem Srt.take{l:List α}(h:Srt lt l)(n:Nat):Srt lt (l.take n):=List.Pairwise.sublist (List.take_sublist _ _) h
theorem Srt.drop{l:List α}(h:Srt lt l)(n:Nat):Srt lt (l.drop n):=List.Pairwise.sublist (List.drop_sublist _ _) h
end Go.Sx
namespace Go.Rt
open Go Go.Sx
attribute [go_sem] List.getD_cons_zero List.getD_cons_succ
end Go.Rt
namespace Go.Sx
open Go
def AV.bare:AV→Prop
 | .int _ _=>True
 | .bool _=>True
 | _=>False
theorem AV.bare.rel{a:AV}(h:a.bare){c c':Ctx}{m:Bool}{cs:List Value}(hr:Rel c a m cs):Rel c' a m cs:=by
 cases a<;>simp only[AV.bare]at h<;>(cases m<;>simpa only[Rel]using hr)
theorem Sim.frz0{c:Ctx}{H:Heap}{n:Nat}{w:World}(hs:Sim c H n w):Sim (c.frz H 0 w) (fun _=>none) 0 w where
 ro:=fun b a hb=>by
   simp only[Ctx.frz]at hb;split at hb
   ·exact kct
   ·exact kan
 own:=fun k o hk=>by simp at hk
 sep:=fun k o b hk=>by simp at hk
 inj:=fun k k' o o' b hk=>by simp at hk
 fresh:=fun k _=>⟨rfl,fun v=>by show(if k<0 then c.ρ k v else none)=none;rw[if_neg om]⟩
 vers:=fun k o v hk=>by simp at hk
theorem Ret.lend{P:Program}{f:FuncId}{args args':List AV}{H:Heap}{n:Nat}{r:AV}(hb:r.bare)(hL:FrzL H 0 args args')(h:Ret P f args' (fun _=>none) 0 r (fun _=>none) 0):Ret P f args H n r H n:=
 fun c w vs hs hr=>(h (c.frz H 0 w) w vs hs.frz0 (FrzL.relT hs hL hr)).mono fun e w' ⟨res,c',H',n',⟨hres,hH,hn⟩,hst,hm⟩=>by
   subst hres;subst hH;subst hn;have hkeep:∀b,b<w.heap.size→w'.heap[b]? =w.heap[b]? :=fun b hb=>hst.fr.keep b hb fun⟨k,o,hk,_⟩=>by simp at hk
   refine⟨.val r,c,H,n,⟨rfl,rfl,rfl⟩,?_,?_⟩
   ·exact {
      le:= .refl _
      sim:={
        ro:=fun b a hb=>by
          obtain⟨ty,fr,hw⟩:=hs.ro b a hb;refine⟨ty,fr,?_⟩;rw[hkeep b ?_]
          ·exact hw
          ·rcases Nat.lt_or_ge b w.heap.size with h | h
           ·exact h
           ·rw[Array.getElem?_eq_none h]at hw;simp at hw
        own:=fun k o hk=>(hs.own k o hk).mono (.refl _) fun b hb=>hkeep b ((hs.own k o hk).lt hb)
        sep:=hs.sep
        inj:=hs.inj
        fresh:=hs.fresh
        vers:=hs.vers}
      fr:={os:=hst.fr.os,tape:=hst.fr.tape,output:=hst.fr.output,size:=hst.fr.size,keep:=fun b hb _=>hkeep b hb}
      new:=fun b hb=> .inl hb}
   ·cases e with
    | returned v=>exact hb.rel hm
    | panicked _=>exact hm.elim
    | outgrown=>exact hm.elim
def AppO(ver off len s by':Nat)(kk:Nat)(H:Heap)(n:Nat)(C:Prop)(eo:Option Nat)(ys:List AV)(k:AV→Heap→Nat→Prop):Option AObj→Prop
 | some (.arr ver' esz els) => (ver = ver' ∧ off = 0 ∧ len = els.length ∧ esz = s ∧ C ∧ (eo = none ∨ eo = some s) ∧ 0 < ys.length ∧ (len + ys.length) * by' ≤ 140737488355328 ∧ len + ys.length ≤ 4611686018427387904) ∧
     k (.osl kk ver 0 (len+ys.length)) (H.put kk (some (.arr ver esz (els++ys)))) n∧k (.osl n 0 0 (len+ys.length)) (H.put n (some (.arr 0 esz (els++ys)))) (n+1)
 | _=>False
def AppD(H:Heap)(n:Nat)(k:AV→Heap→Nat→Prop):AV→Option (Nat×Nat)→Option (Prop×Option Nat×List AV)→Prop
 | .nilsl,some (s,by'),some (C,eo,ys)=>(C∧(eo=none∨eo=some s)∧ys.length*by'≤140737488355328∧ys.length≤4611686018427387904)∧k (.osl n 0 0 ys.length) (H.put n (some (.arr 0 s ys))) (n+1)
 | .osl kk ver off len,some (s,by'),some (C,eo,ys)=>AppO ver off len s by' kk H n C eo ys k (H kk)
 | _,_,_=>False
section
variable {P:Program}{z:TypeId→AV}{N:Nat}{ops:Array Oper}{T:Nat→AV}{H:Heap}{n:Nat}{Q:QK}
theorem Yx{l2:List Oper}{Q1:QK}(h2:∀T H n,Q1 .normal T H n→lrun P N ops l2 T H n Q)(hp2:∀p T H n,Q1 (.pan p) T H n→Q (.pan p) T H n):∀(l:List Oper) (T:Nat→AV) (H:Heap) (n:Nat),erun P z N ops l T H n Q1→lrun P N ops (l++l2) T H n Q
 | [],T,H,n,h=>h2 T H n h
 | ⟨dst,op,ty,pos,after,none⟩::os,T,H,n,h=>fun c w a hs hr hN ds hd=>by
   unfold erun at h;obtain⟨hdst,h⟩:=h;have hw:Region.wanted ⟨dst,op,ty,pos,after,none⟩ (yielded ops a.tmps)=true:=YT rfl;have hε:∀x∈op.operands,Rel c (evO T x) false [a.eval x]:=fun x _=>Wy hr x;split at h
   ·cases hq:opQ P z H true T op with
    | none=>rw[hq]at h;exact h.elim
    | some p=>
      obtain⟨C,r⟩:=p;rw[hq]at h;obtain⟨hC,h⟩:=h
      exact YB (k:=fun r' H' n'=>r'=r∧H'=H∧n'=n) (kp:=fun _ _ _=>False) hdst (RH (WT hq rfl hC) ⟨rfl,rfl,rfl⟩) hs hr hN hd hw hε id (fun _ _ _ h=>h)
        (by rintro _ _ _ ⟨rfl,rfl,rfl⟩;exact Yx h2 hp2 os _ _ _ h) (fun _ _ _ h=>h.elim)
   ·cases hq:opW P z H n T op with
    | none=>rw[hq]at h;exact h.elim
    | some p=>
      obtain⟨C,r,H',n'⟩:=p;rw[hq]at h;obtain⟨hC,h⟩:=h
      exact YB (k:=fun r2 H2 n2=>r2=r∧H2=H'∧n2=n') (kp:=fun _ _ _=>False) hdst (UV hq hC ⟨rfl,rfl,rfl⟩) hs hr hN hd hw hε id (fun _ _ _ h=>h)
        (by rintro _ _ _ ⟨rfl,rfl,rfl⟩;exact Yx h2 hp2 os _ _ _ h) (fun _ _ _ h=>h.elim)
   ·rename_i fo args hcl;unfold X4 at hcl;split at hcl
    all_goals first
      | (simp at hcl;done)
      | (split at hcl<;>simp at hcl;done)
      | (simp only [Lm.c.injEq] at hcl
         obtain⟨rfl,rfl⟩:=hcl;exact YB hdst (OpT.call h) hs hr hN hd hw hε id (fun _ _ _ h=>h) (fun r H' n' hk=>Yx h2 hp2 os _ _ _ hk) (fun _ _ _ h=>hp2 _ _ _ _ h))
 | ⟨dst,op,ty,pos,after,some (j,b)⟩::os,T,H,n,h=>fun c w a hs hr hN ds hd=>by
   unfold erun at h;obtain⟨hdst,h⟩:=h;cases ht:gtmp ops j with
   | none=>rw[ht]at h;exact h.elim
   | some t=>
     rw[ht]at h;simp only[Option.bind_some]at h;cases hgv:gval (T t) b with
     | none=>rw[hgv]at h;exact h.elim
     | some g=>
       rw[hgv]at h;have hwg:Region.wanted ⟨dst,op,ty,pos,after,some (j,b)⟩ (yielded ops a.tmps)=g:=L8 hr rfl ht hgv;simp only[Z7]at h;have hε:∀x∈op.operands,Rel c (evO T x) false [a.eval x]:=fun x _=>Wy hr x;split at h
       ·cases hq:opQ P z H g T op with
        | none=>
          rw[hq]at h;obtain⟨hg,h⟩:=h;rw[hg]at hwg h;exact We hdst hs hr hN hd hwg _ (Yx h2 hp2 os _ _ _ h)
        | some p=>
          obtain⟨C,r⟩:=p;rw[hq]at h;obtain⟨hC,h⟩:=h;cases g with
          | true=>
            exact YB (k:=fun r' H' n'=>r'=r∧H'=H∧n'=n) (kp:=fun _ _ _=>False) hdst (RH (WT hq rfl (hC rfl)) ⟨rfl,rfl,rfl⟩) hs hr hN hd hwg hε (.opt true) (fun _ _ _ h=>KH rfl h)
              (by rintro _ _ _ ⟨rfl,rfl,rfl⟩;exact Yx h2 hp2 os _ _ _ h) (fun _ _ _ h=>h.elim)
          | false=>exact We hdst hs hr hN hd hwg _ (Yx h2 hp2 os _ _ _ h)
       ·cases g with
        | true=>
          have h:=h.1 rfl;cases hq:opW P z H n T op with
          | none=>rw[hq]at h;exact h.elim
          | some p=>
            obtain⟨C,r,H',n'⟩:=p;rw[hq]at h;obtain⟨hC,h⟩:=h
            exact YB (k:=fun r2 H2 n2=>r2=r∧H2=H'∧n2=n') (kp:=fun _ _ _=>False) hdst (UV hq hC ⟨rfl,rfl,rfl⟩) hs hr hN hd hwg hε id (fun _ _ _ h=>h)
              (by rintro _ _ _ ⟨rfl,rfl,rfl⟩;exact Yx h2 hp2 os _ _ _ h) (fun _ _ _ h=>h.elim)
        | false=>exact We hdst hs hr hN hd hwg _ (Yx h2 hp2 os _ _ _ (h.2 rfl))
       ·rename_i fo args hcl;unfold X4 at hcl;split at hcl
        all_goals first
          | (simp at hcl;done)
          | (split at hcl<;>simp at hcl;done)
          | (simp only [Lm.c.injEq] at hcl
             obtain⟨rfl,rfl⟩:=hcl;cases g with
             | true=>
               exact YB hdst (OpT.call (ε:=fun x=>strip true (evO T x)) (h.1 rfl)) hs hr hN hd hwg (fun x hx=>UQ rfl (hε x hx)) (.opt true) (fun _ _ _ h=>KH rfl h) (fun r H' n' hk=>Yx h2 hp2 os _ _ _ hk) (fun _ _ _ h=>hp2 _ _ _ _ h)
             | false=>
               obtain⟨r,h⟩:=h.2 rfl;exact We hdst hs hr hN hd hwg _ (Yx h2 hp2 os _ _ _ h))
end
theorem AppD_nil(H:Heap)(n:Nat)(k:AV→Heap→Nat→Prop)(s by':Nat)(C:Prop)(eo:Option Nat)(ys:List AV):AppD H n k .nilsl (some (s,by')) (some (C,eo,ys))=((C∧(eo=none∨eo=some s)∧ys.length*by'≤140737488355328∧ys.length≤4611686018427387904)∧k (.osl n 0 0 ys.length) (H.put n (some (.arr 0 s ys))) (n+1)):=rfl
theorem AppD_osl(H:Heap)(n:Nat)(k:AV→Heap→Nat→Prop)(kk ver off len s by':Nat)(C:Prop)(eo:Option Nat)(ys:List AV):AppD H n k (.osl kk ver off len) (some (s,by')) (some (C,eo,ys))=AppO ver off len s by' kk H n C eo ys k (H kk):=rfl
def AppK(k:AV→Heap→Nat→Prop)(H:Heap)(n kk ver esz len:Nat)(els ys:List AV):Prop:=
 k (.osl kk ver 0 (len+ys.length)) (H.put kk (some (.arr ver esz (els++ys)))) n∧k (.osl n 0 0 (len+ys.length)) (H.put n (some (.arr 0 esz (els++ys)))) (n+1)
theorem AppO_some2(ver off len s by' kk:Nat)(H:Heap)(n:Nat)(C:Prop)(eo:Option Nat)(ys:List AV)(k:AV→Heap→Nat→Prop)(ver' esz:Nat)(els:List AV):AppO ver off len s by' kk H n C eo ys k (some (.arr ver' esz els))=((ver=ver'∧off=0∧len=els.length∧esz=s∧C∧(eo=none∨eo=some s)∧0<ys.length∧(len+ys.length)*by'≤140737488355328∧len+ys.length≤4611686018427387904)∧
 AppK k H n kk ver esz len els ys):=rfl
theorem AppK.all{k : AV → Heap → Nat → Prop}{H : Heap}{n kk ver esz len : Nat}{els ys : List AV}(hkk : kk < n)
   (h:∀gk gv H2 n2,n≤n2→gk<n2→(gk=kk∨n≤gk)→H2 gk=some (.arr gv esz (els++ys))→(H2 kk=some (.arr ver esz els)∨H2 kk=some (.arr ver esz (els++ys)))→(∀j,j<n→j≠kk→H2 j=H j)→k (.osl gk gv 0 (len+ys.length)) H2 n2)
   (hH:H kk=some (.arr ver esz els)):AppK k H n kk ver esz len els ys:=by
 refine⟨h _ _ _ _ (Nat.le_refl _) hkk (.inl rfl) (Rm _ _ _) (.inr (Rm _ _ _)) (fun j _ hj=>Rk _ _ hj),h _ _ _ _ om om (.inr (Nat.le_refl _)) (Rm _ _ _) (.inl ?_) (fun j hn hj=>Rk _ _ om)⟩;rw[Rk _ _ om];exact hH
attribute [go_sem] AppD_nil AppD_osl AppO_some2 List.drop_succ_cons List.drop_zero List.drop_nil
def pwB(ps:List Nat):List Nat→Bool
 | []=>true
 | a::l=>(l.all fun b=>decide (ps.getD a 0<ps.getD b 0))&&pwB ps l
theorem pwB_spec{ps:List Nat}:∀{l:List Nat},pwB ps l=true→l.Pairwise fun a b=>ps.getD a 0<ps.getD b 0
 | [],_=> .nil
 | a::l,h=>by
   rw[pwB,Bool.and_eq_true]at h;exact .cons (fun b hb=>of_decide_eq_true (List.all_eq_true.1 h.1 b hb)) (pwB_spec h.2)
def pairAA(l:List Oper)(b:List Nat)(i:Nat)(oi oj:Oper):DK→DK→Bool
 | .a _ inci,.a _ incj=>apartB l oi oj&&(incj.all fun q=>q==i||inci.contains q||YC b i q)&&disj oj.dst.toList (inci.flatMap fun q=>match l[q]? with | some o=>WX l o++o.dst.toList | none=>[])
 | _,_=>false
def DK.isA:DK→Bool
 | .a _ _=>true
 | _=>false
section
variable {P:Program}{z:TypeId→AV}{N:Nat}{ops:Array Oper}
def PairAA(ops:Array Oper)(i:Nat)(ki:DK)(j:Nat)(kj:DK):Prop:=
 ∃oi oj,ops[i]? =some oi∧ops[j]? =some oj∧Apart (ops:=ops) oi oj∧∃a inci b incj,ki= .a a inci∧kj= .a b incj∧(∀q∈incj,q≠i→q∈inci∨YC (ancs [] ops.toList) i q=true)∧∀q∈inci,∀o,ops[q]? =some o→∀d,oj.dst=some d→d∉looks (ops:=ops) o∧o.dst≠some d
theorem frontP(pos : Nat → Nat){Q : QK}(hpan : ∀ p T T' H n, Q (.pan p) T H n → Q (.pan p) T' H n)(j : Nat)(kj : DK):
   ∀(m:Nat) (pre:List (Nat×DK×List Nat)) (I:List Nat) (post:List (Nat×DK×List Nat)) (T:Nat→AV) (H:Heap) (n:Nat),pre.length=m→
     (∀p∈pre,p.2.2=p.2.1.inc)→(∀p∈pre,Jp ops N p.1 p.2.1 j kj∨PairAA ops p.1 p.2.1 j kj)→(kj.isW=true→∀p∈pre,p.2.1= .m∨p.1∈I∨p.2.1.isA=true)→(∀q∈I,q∈kj.inc∧∀p∈pre,YC (ancs [] ops.toList) p.1 q=true→q∈pre.map (·.1)∧pos p.1<pos q)→
     (pre.map (·.1)).Pairwise (fun a b=>pos a<pos b)→(kj.isW=true→∀q∈I,∀p∈pre,p.1≠q→(pos p.1<pos q∧q∈pre.map (·.1))∨Uc ops p.1 q)→
     drun P z N ops (pre++(j,kj,I)::post) T H n Q→∃I',Z0 P z N ops j kj I' T H n (fun T H n=>drun P z N ops (pre++post) T H n Q) Q
 | 0,pre,I,post,T,H,n,hm,_,_,_,_,_,_,h=>by
   have:pre=[]:=List.length_eq_zero_iff.1 hm;subst this;exact⟨I,h⟩
 | m+1,pre,I,post,T,H,n,hm,hinc,hpair,hin,hII,hsort,hCI,h=>by
   rcases List.eq_nil_or_concat pre with rfl | ⟨L,⟨i,ki,Ii⟩,rfl⟩
   ·simp at hm
   ·simp only[List.concat_eq_append]at*;rw[qf]at h;simp only[List.cons_append,List.nil_append]at h;have hLm:L.length=m:=by simpa using hm
    rw[qj,List.pairwise_append]at hsort;obtain⟨hsortL,_,hlt⟩:=hsort;have hlt':∀p∈L,pos p.1<pos i:=fun p hp=>hlt p.1 (List.mem_map.2 ⟨p,hp,rfl⟩) i osi;have hlast:kj.isW=true→∀q∈I,q≠i→Uc ops i q:=fun hw q hq hne=>by
      rcases hCI hw q hq (i,ki,Ii) osi (fun e=>hne e.symm)with⟨h1,h2⟩ | h1
      ·exfalso;rw[qj,List.mem_append]at h2;rcases h2 with h2 | h2
       ·obtain⟨p,hp,e⟩:=List.mem_map.1 h2;have:=hlt' p hp;simp only at h1 e;subst e;omega
       ·simp at h2;exact hne h2
      ·exact h1
    have hb:∀T H n,drun P z N ops ((i,ki,Ii)::(j,kj,I)::post) T H n Q→drun P z N ops ((j,kj,if kj.isW then I.filter (· !=i)else I)::(i,ki,Ii)::post) T H n Q:=fun T H n h=>by
      rcases hpair (i,ki,Ii) osi with⟨oi,oj,hoi,hoj,hap,hcase⟩ | ⟨oi,oj,hoi,hoj,hap,a,inci,b,incj,rfl,rfl,h1,h2⟩
      ·rcases hcase with⟨h1,h2⟩ | ⟨h1,h2,h3,h4⟩ | ⟨h1,h2,⟨x,hx⟩,h4,h5,h6⟩
       ·exact kcR
       ·simp only[h2,if_true];have hin':ki= .m∨i∈I:=by
          rcases hin h2 (i,ki,Ii) osi with h | h | h
          ·exact .inl h
          ·exact .inr h
          ·simp only at h;cases ki<;>simp[DK.isA,DK.isW]at h h1
        cases kj with
        | w inc=>exact swap_w hoi hoj h1 hap h3 h4 hin' (fun q hq hne o ho d hd=>hlast rfl q hq hne oi o hoi ho d hd) hpan h
        | a key inc=>exact swap_a hoi hoj h1 hap h3 h4 hin' (fun q hq hne o ho d hd=>hlast rfl q hq hne oi o hoi ho d hd) h
        | m=>simp[DK.isW]at h2
        | q=>simp[DK.isW]at h2
        | c=>simp[DK.isW]at h2
       ·subst h2;simp only[DK.isW,Bool.false_eq_true,if_false];cases ki with
        | w inc=>exact swap_m hoi hoj hap hx h4 h5 (fun q hq=>h6 q (hinc (i,.w inc,Ii) osi▸hq)) hpan h
        | a key inc=>exact swap_ma hoi hoj hap hx h4 h5 (fun q hq=>h6 q (hinc (i,.a key inc,Ii) osi▸hq)) h
        | m=>simp[DK.isW]at h1
        | q=>simp[DK.isW]at h1
        | c=>simp[DK.isW]at h1
      ·have hIi:Ii=inci:=hinc (i,.a a inci,Ii) osi;subst hIi;simp only[DK.isW,if_true];refine swap_aa hoi hoj hap (fun q hq hne=>(h1 q (hII q hq).1 hne).resolve_right fun ha=> ?_) h2 h;obtain⟨g1,g2⟩:=(hII q hq).2 (i,.a a Ii,Ii) osi ha;rw[qj,List.mem_append]at g1;rcases g1 with g1 | g1
       ·obtain⟨p,hp,e⟩:=List.mem_map.1 g1;have:=hlt' p hp;rw[e]at this;simp only at g2;omega
       ·simp at g1;exact hne g1
    have h2:=Jc hb L T H n h
    obtain⟨I',hI'⟩:=frontP pos hpan j kj m L (if kj.isW then I.filter (· !=i)else I) ((i,ki,Ii)::post) T H n hLm (fun p hp=>hinc p (by simp[hp])) (fun p hp=>hpair p (by simp[hp]))
      (fun hw p hp=>(hin hw p (by simp[hp])).imp id fun h=>h.imp (fun h=>by
        rw[if_pos hw];exact List.mem_filter.2 ⟨h,by have:=hlt' p hp;simp;intro e;rw[e]at this;omega⟩) id)
      (fun q hq=>by
        have hqI:q∈I:=by
          split at hq
          ·exact(List.mem_filter.1 hq).1
          ·exact hq
        refine⟨(hII q hqI).1,fun p hp ha=> ?_⟩;obtain⟨g1,g2⟩:=(hII q hqI).2 p (by simp[hp]) ha;refine⟨?_,g2⟩;rw[qj,List.mem_append]at g1;rcases g1 with g1 | g1
        ·exact g1
        ·simp only[List.map_cons,List.map_nil,List.mem_singleton]at g1;subst g1;split at hq
         ·simp at hq
         ·rename_i hw;exfalso;have:=(hII q hqI).1;cases kj<;>simp[DK.isW,DK.inc]at hw this) hsortL
      (fun hw q hq p hp hne=>by
        rw[if_pos hw]at hq;obtain⟨hq1,hq2⟩:=List.mem_filter.1 hq;rcases hCI hw q hq1 p (by simp[hp]) hne with⟨h1,h2⟩ | h1
        ·exact kbA
        ·exact .inr h1) h2
    exact⟨I',by rw[qf];exact hI'⟩
structure CheckedP(ops:Array Oper)(N:Nat)(ks:List DK)(ord:List Nat)(pos:Nat→Nat):Prop where
 mem:∀i,i∈ord↔i<ops.size
 srt:ord.Pairwise fun a b=>pos a<pos b
 lin:∀i o,ops[i]? =some o→∀e∈ZZ o,pos e<pos i
 len:ks.length=ops.size
 edges:∀i o,ops[i]? =some o→∀e∈ZZ o,e<i
 pair:∀i j ki kj,pos i<pos j→ks[i]? =some ki→ks[j]? =some kj→YC (ancs [] ops.toList) i j=false→(Jp ops N i ki j kj∧(kj.isW=true→ki= .m∨i∈kj.inc))∨(PairAA ops i ki j kj∧ki.isA=true)
 inc:∀j kj,ks[j]? =some kj→∀q∈kj.inc,(pos q<pos j∧q<ops.size)∧∀p,p<ops.size→pos p<pos j→p≠q→YC (ancs [] ops.toList) p q=false→Uc ops p q
def Z8(ord:List Nat)(listed:Array Bool):List Nat:=ord.filter fun i=> !listed.getD i true
end
def dkAt:List DK→Nat→Option DK
 | [],_=>none
 | k::_,0=>some k
 | _::l,i+1=>dkAt l i
theorem La(l:List DK)(k:Nat):dkAt l k=l[k]? :=by
 induction l generalizing k with
 | nil=>rfl
 | cons a l ih=>cases k with
   | zero=>rfl
   | succ k=>simp[dkAt,ih]
def opk1:Option Oper→Option DK→List (Oper×DK)→List (Oper×DK)
 | some o,some k,r=>(o,k)::r
 | _,_,r=>r
def opkL(l:List Oper)(ks:List DK):List Nat→List (Oper×DK)
 | []=>[]
 | i::is=>opk1 (opAt l i) (dkAt ks i) (opkL l ks is)
theorem KZ{P : Program}{z : TypeId → AV}{N : Nat}{l : List Oper}{ks : List DK}{Q : QK}(hl : ks.length = l.length):
   ∀(ord:List Nat) (T:Nat→AV) (H:Heap) (n:Nat),(∀i∈ord,i<l.length)→dr P z N l (opkL l ks ord) T H n Q→drun P z N l.toArray (ord.map (item ks)) T H n Q
 | [],T,H,n,hk,h=>h
 | k::ord,T,H,n,hk,h=>by
   have h1:k<l.length:=hk k osi;have h2:k<ks.length:=om;have hlk:l[k]? =some l[k]:=List.getElem?_eq_getElem h1;rw[opkL,opAt_eq,La,hlk,List.getElem?_eq_getElem h2,opk1]at h;have ih:=fun(T:Nat→AV) (H:Heap) (n:Nat)=>KZ (P:=P) (z:=z) (N:=N) (ks:=ks) (Q:=Q) hl ord T H n (fun i hi=>hk i (by simp[hi]));rw[List.map_cons];have ei:item ks k=(k,ks[k],ks[k].inc):=by simp[item,List.getD,List.getElem?_eq_getElem h2]
   rw[ei];show Z0 P z N l.toArray k ks[k] ks[k].inc T H n _ Q;unfold Z0;simp only[List.getElem?_toArray,hlk];generalize l[k]=o at h ⊢;generalize ks[k]=kd at h ⊢;obtain⟨dst,op,ty,pos,after,guard⟩:=o;cases guard with
   | none=>
     unfold dr at h;refine⟨h.1,?_⟩;have h:=h.2;cases kd with
     | m=>
       simp only[gvO,Z7,putG]at h ⊢;split
       ·exact ih _ _ _ h
       ·rename_i hne;split at h
        ·exact(hne _ rfl).elim
        ·exact h
     | q=>
       simp only[gvO,Z7,putG]at h ⊢;cases hq:opQ P z H true T op with
       | none=>rw[hq]at h;exact h.elim
       | some p=>rw[hq]at h;exact⟨fun _=>h.1,ih _ _ _ h.2⟩
     | c=>
       simp only[gvO,Z7,putG]at h ⊢;split
       ·rename_i fo args ts;obtain⟨r,h1,h2⟩:=h;exact⟨r,fun _=>h1 rfl,ih _ _ _ h2⟩
       ·rename_i hne;split at h
        ·exact(hne _ _ _ rfl).elim
        ·exact h
     | w inc=>
       simp only[DK.inc]at h ⊢;refine⟨trivial,?_⟩;split at h
       ·rename_i fo args ts;exact(OpT.call h).mono fun r H n hr=>by cases r with | val r=>exact⟨JB hr.1,ih _ _ _ hr.2⟩ | pan p=>exact hr
       ·cases hw:opW P z H n T op with
        | none=>rw[hw]at h;exact h.elim
        | some p=>rw[hw]at h;exact UV hw h.1 ⟨JB h.2.1,ih _ _ _ h.2.2⟩
     | a key inc=>
       simp only[DK.inc]at h ⊢;refine⟨trivial,?_⟩;cases hw:opA P z H key n T op with
       | none=>rw[hw]at h;exact h.elim
       | some p=>rw[hw]at h;exact⟨h.1,fun q hq H2 hag=>JB (h.2.1 H2 hag) q hq,ih _ _ _ h.2.2⟩
   | some jb=>
     obtain⟨j,b⟩:=jb;unfold dr at h;refine⟨h.1,?_⟩;have h:=h.2;have hgv:gvO l.toArray T ⟨dst,op,ty,pos,after,some (j,b)⟩=(gtmp l.toArray j).bind fun t=>gval (T t) b:=rfl;cases hg:(gtmp l.toArray j).bind fun t=>gval (T t) b with
     | none=>rw[hg]at h;exact h.elim
     | some g=>
       rw[hg]at h;simp only[Z7]at h;cases kd with
       | m=>
         simp only[hgv,hg,Z7,putG]at h ⊢;split
         ·exact ih _ _ _ h
         ·rename_i hne;split at h
          ·exact(hne _ rfl).elim
          ·exact h
       | q=>
         simp only[hgv,hg,Z7,putG]at h ⊢;cases hq:opQ P z H g T op with
         | none=>rw[hq]at h;exact⟨h.1,ih _ _ _ h.2⟩
         | some p=>rw[hq]at h;exact⟨h.1,ih _ _ _ h.2⟩
       | c=>
         simp only[hgv,hg,Z7,putG]at h ⊢;split
         ·rename_i fo args ts;obtain⟨r,h1,h2⟩:=h;exact⟨r,h1,ih _ _ _ h2⟩
         ·rename_i hne;split at h
          ·rename_i fo args ts;exact(hne _ _ _ rfl).elim
          ·exact h
       | w inc=>exact h.elim
       | a key inc=>exact h.elim
attribute [go_sem] opkL.eq_1 opkL.eq_2 opk1.eq_1 dkAt.eq_1 dkAt.eq_2 dkAt.eq_3
theorem Js.at{H H2:Heap}(h:Js H H2)(k:Nat)(hk:∀e,H k≠some (.arr 0 e [])):H2 k=H k:=(h k).resolve_left fun⟨e,he⟩=>hk e he
theorem AdpL.relT{n:Nat}{c:Ctx}(hl:c.ρ n 0=some .nil):∀{l m:List AV} {cs:List Value},AdpL n l m→RelT c l cs→RelT c m cs
 | [],[],_,_,h=>h
 | a::l,b::m,cs,hw,h=>by
   simp only[RelT]at h ⊢;obtain⟨v,r,e,h1,h2⟩:=h;exact⟨v,r,e,hw.1.2 c false _ hl h1,AdpL.relT hl hw.2 h2⟩
 | [],_::_,_,hw,_=>hw.elim
 | _::_,[],_,hw,_=>hw.elim
theorem Adp.tup{n:Nat}{l m:List AV}(h:AdpL n l m):Adp n (.tup l) (.tup m):=by
 refine⟨rfl,fun c m' cs hl hr=> ?_⟩;cases m' with
 | true=>simp only[Rel]at hr
 | false=>
   simp only[Rel]at hr ⊢;obtain⟨arr,e,h1⟩:=hr;exact⟨arr,e,h.relT hl h1⟩
end Go.Sx
namespace Go.Rt
open Go Go.Sx
theorem Kj:∀(b:List UInt8) (n:Nat),Rv n (b.map Zd)
 | [],_=>trivial
 | _::b,n=>⟨trivial,Kj b n⟩
theorem XM{H:Heap}{n:Nat}:∀(l:List AV),Rv n l→FrzL H n l l
 | [],_=> .nil
 | _::l,h=> .cons (.kl h.1) (XM l h.2)
structure Lp where
 k:Nat
 ver:Nat
 els:List AV
instance:Inhabited Lp:=⟨⟨0,0,[]⟩⟩
structure Lp.here(H:Heap)(p:Lp)(b:List UInt8):Prop where
 at':H p.k=some (.arr p.ver 1 p.els)
 len:b.length≤p.els.length
 tk:p.els.take b.length=b.map Zd
structure Lp.ok(H:Heap)(n:Nat)(p:Lp)(b:List UInt8):Prop extends Lp.here H p b where
 lt:p.k<n
def Lp.av(p:Lp)(len:Nat):AV:= .osl p.k p.ver 0 len
attribute [go_sem] Lp.av
structure LEnt where
 e:Ent
 r:Lp
 q:Lp
 v:Lp
instance:Inhabited LEnt:=⟨⟨default,default,default,default⟩⟩
def Ph(x:LEnt):AV:= .agg [x.r.av x.e.row.length,.int .i64 x.e.fam,x.q.av x.e.qual.length,.int .i64 x.e.ts,.int .i64 x.e.seq,.int .i64 x.e.kind,x.v.av x.e.value.length]
attribute [go_sem] Ph
structure LEnt.ok(H:Heap)(n:Nat)(x:LEnt):Prop where
 r:x.r.ok H n x.e.row
 q:x.q.ok H n x.e.qual
 v:x.v.ok H n x.e.value
structure LList(H:Heap)(n:Nat)(p:Lp)(l:List LEnt):Prop where
 lt:p.k<n
 at':H p.k=some (.arr p.ver 7 p.els)
 len:l.length≤p.els.length
 tk:p.els.take l.length=l.map Ph
 ok:∀x∈l,x.ok H n
theorem LList.nth{H:Heap}{n:Nat}{p:Lp}{l:List LEnt}(h:LList H n p l){i:Nat}(hi:i<l.length):nth p.els i=Ph (l.getD i default):=by
 rw[←Zr Ph l i hi,←h.tk];simp[Sx.nth,List.getD,hi]
structure Lp.mine(H:Heap)(lo hi:Nat)(p:Lp)(b:List UInt8):Prop where
 at':H p.k=some (.arr p.ver 1 p.els)
 els:p.els=b.map Zd
 lo:lo≤p.k
 hi:p.k<hi
theorem Lp.mine.ok{H:Heap}{lo hi:Nat}{p:Lp}{b:List UInt8}(h:p.mine H lo hi b):p.ok H hi b:=⟨⟨h.at',by rw[h.els];simp,by rw[h.els,List.take_of_length_le osi]⟩,h.hi⟩
theorem Lp.mine.low{H:Heap}{lo lo' hi:Nat}{p:Lp}{b:List UInt8}(h:p.mine H lo hi b)(hl:lo'≤lo):p.mine H lo' hi b:=⟨h.at',h.els,Nat.le_trans hl h.lo,h.hi⟩
structure LEnt.mine(H:Heap)(lo hi:Nat)(x:LEnt):Prop where
 r:x.r.mine H lo hi x.e.row
 q:x.q.mine H lo hi x.e.qual
 v:x.v.mine H lo hi x.e.value
 rq:x.r.k<x.q.k
 qv:x.q.k<x.v.k
theorem LEnt.mine.ok{H:Heap}{lo hi:Nat}{x:LEnt}(h:x.mine H lo hi):x.ok H hi:=⟨h.r.ok,h.q.ok,h.v.ok⟩
theorem LEnt.mine.low{H:Heap}{lo lo' hi:Nat}{x:LEnt}(h:x.mine H lo hi)(hl:lo'≤lo):x.mine H lo' hi:=⟨h.r.low hl,h.q.low hl,h.v.low hl,h.rq,h.qv⟩
def LEnt.ks(x:LEnt):List Nat:=[x.r.k,x.q.k,x.v.k]
structure MS(H:Heap)(lo hi:Nat)(xs:List LEnt):Prop where
 all:∀x∈xs,x.mine H lo hi
 nd:(xs.flatMap LEnt.ks).Nodup
theorem MS.nil(H:Heap)(lo hi:Nat):MS H lo hi []:=⟨fun _ h=>by(cases h),.nil⟩
theorem MS.low{H:Heap}{lo lo' hi:Nat}{xs:List LEnt}(h:MS H lo hi xs)(hl:lo'≤lo):MS H lo' hi xs:=⟨fun x hx=>(h.all x hx).low hl,h.nd⟩
theorem MS.ok{H:Heap}{lo hi:Nat}{xs:List LEnt}(h:MS H lo hi xs):∀x∈xs,x.ok H hi:=fun x hx=>(h.all x hx).ok
structure LEnt.there(H:Heap)(k:Nat)(x:LEnt):Prop where
 r:x.r.here H x.e.row
 q:x.q.here H x.e.qual
 v:x.v.here H x.e.value
 ne:k∉x.ks
structure OwnA(H:Heap)(lo hi:Nat)(ko ver:Nat)(xs:List LEnt):Prop where
 at':H ko=some (.arr ver 7 (xs.map Ph))
 ge:lo≤ko
 lt:ko<hi
 mine:MS H lo hi xs
 ne:ko∉xs.flatMap LEnt.ks
theorem OwnA.low{H:Heap}{lo lo' hi ko ver:Nat}{xs:List LEnt}(h:OwnA H lo hi ko ver xs)(hl:lo'≤lo):OwnA H lo' hi ko ver xs:=⟨h.at',Nat.le_trans hl h.ge,h.lt,h.mine.low hl,h.ne⟩
def AnsU(H:Heap)(lo hi:Nat)(a:AV)(es:List Ent):Prop:=(a= .nilsl∧es=[])∨∃ko ver xs,a= .osl ko ver 0 xs.length∧xs.map (·.e)=es∧OwnA H lo hi ko ver xs
theorem AnsU.nil(H:Heap)(lo hi:Nat):AnsU H lo hi .nilsl []:= .inl ⟨rfl,rfl⟩
theorem AnsU.low{H:Heap}{lo lo' hi:Nat}{a:AV}{es:List Ent}(h:AnsU H lo hi a es)(hl:lo'≤lo):AnsU H lo' hi a es:=by
 rcases h with h | ⟨ko,ver,xs,e,h1,h2⟩
 ·exact .inl h
 ·exact .inr ⟨ko,ver,xs,e,h1,h2.low hl⟩
theorem AnsU.strip{H:Heap}{lo hi:Nat}{a:AV}{es:List Ent}(h:AnsU H lo hi a es):Sx.strip true a=a:=by
 rcases h with⟨rfl,_⟩ | ⟨_,_,_,rfl,_⟩<;>rfl
theorem QO{v:Nat}(h:v<128):Zi v=[UInt8.ofNat v]:=by rw[Zi];simp[h]
theorem QP{v:Nat}(h:128≤v):Zi v=UInt8.ofNat (v%128+128)::Zi (v/128):=by rw[Zi];simp[Nat.not_lt.2 h]
theorem uintB_len:∀(k v:Nat),v<128^(k+1)→(Zi v).length≤k+1
 | 0,v,h=>by rw[QO (by simpa using h)];simp
 | k+1,v,h=>by
   by_cases hv:v<128
   ·rw[QO hv];simp
   ·rw[QP om,qi];have:=uintB_len k (v/128) (by
      rw[Nat.div_lt_iff_lt_mul om];simpa [Nat.pow_succ]using h)
    omega
theorem Zp{v:Nat}(h:v<18446744073709551616):(Zi v).length≤10:=uintB_len 9 v om
theorem uintB_pos(v:Nat):1≤(Zi v).length:=by
 by_cases hv:v<128
 ·rw[QO hv];simp
 ·rw[QP om];simp
theorem Yc(n:Int):u64 n<18446744073709551616:=by unfold u64;omega
theorem Wm(n:Nat)(h:n<18446744073709551616):u64 n=n:=by unfold u64;omega
theorem Ya(n:Int):IntKind.u64.wrap n=(u64 n:Int):=by rw[IntKind.wrap_u64];unfold u64;omega
theorem u8_wrap(n:Int):IntKind.u8.wrap n=((Yb n).toNat:Int):=by
 have:IntKind.u8.wrap n=n%256:=by simp[IntKind.wrap,IntKind.bits,IntKind.signed]
 rw[this];unfold Yb;simp;omega
theorem XJ(n:Int):AV.int .u8 (IntKind.u8.wrap n)=Zd (Yb n):=by rw[u8_wrap];rfl
theorem Mr(v:Nat):Yb v=UInt8.ofNat v:=by
 unfold Yb;apply UInt8.toNat_inj.1;simp;omega
theorem or128(v:Nat):AV.int .u8 (intBits .or .u8 (IntKind.u8.wrap (v:Int)) 128)=Zd (UInt8.ofNat (v%128+128)):=by
 have h1:IntKind.u8.wrap (v:Int)=((v%256:Nat):Int):=by
   have:IntKind.u8.wrap (v:Int)=(v:Int)%256:=by simp[IntKind.wrap,IntKind.bits,IntKind.signed]
   rw[this];omega
 rw[h1];have key:∀r:Fin 256,intBits .or .u8 ((r.1:Nat):Int) 128=((UInt8.ofNat (r.1%128+128)).toNat:Int):=by decide +kernel
 have:=key ⟨v%256,Nat.mod_lt _ om⟩;simp only at this;rw[this];have e:v%256%128=v%128:=om;rw[e];rfl
theorem shr7(v:Nat):(v:Int).fdiv (2^(min 7 64:Nat))=((v/128:Nat):Int):=by
 have:(2:Int)^(min 7 64:Nat)=128:=odc;rw[this,Int.fdiv_eq_ediv_of_nonneg _ om];omega
structure WSt(H:Heap)(n kw kb M:Nat)(bs:List UInt8):Prop where
 ex:∃ver,H kw=some (.arr 0 1 [.agg [.osl kb ver 0 bs.length]])∧H kb=some (.arr ver 1 (bs.map Zd))
 ne:kw≠kb
 lw:kw<n
 lb:kb<n
 len:bs.length≤M
theorem WSt.up{H:Heap}{n kw kb M M':Nat}{bs:List UInt8}(h:WSt H n kw kb M bs)(hM:M≤M'):WSt H n kw kb M' bs:=⟨h.ex,h.ne,h.lw,h.lb,Nat.le_trans h.len hM⟩
def WK(H:Heap)(n kw kb M:Nat)(bs:List UInt8)(res:ARes)(H':Heap)(n':Nat):Prop:=res= .val (.tup [])∧n≤n'∧WSt H' n' kw kb M bs∧∀k,k<n→k≠kw→k≠kb→H' k=H k
theorem WK.up{H H1 H':Heap}{n n1 n' kw kb M:Nat}{bs:List UInt8}{res:ARes}(h:WK H1 n1 kw kb M bs res H' n')(hn:n≤n1)(hl:∀k,k<n→k≠kw→k≠kb→H1 k=H k):WK H n kw kb M bs res H' n':=
 ⟨h.1,Nat.le_trans hn h.2.1,h.2.2.1,fun k hk h1 h2=>(h.2.2.2 k om h1 h2).trans (hl k hk h1 h2)⟩
structure CmdE.fits(c:CmdE):Prop where
 row:c.row.length≤1048576
 conds:c.conds.length≤1048576
 cond:∀x∈c.conds,x.qual.length≤1048576∧x.value.length≤1048576
 ops:c.ops.length≤1048576
 op:∀x∈c.ops,x.qual.length≤1048576∧x.value.length≤1048576
 frm:c.q.frm.length≤1048576
 to:c.q.to.length≤1048576
 fams:c.q.fams.length≤1048576
 pre:c.q.pre.length≤1048576
 whr:c.q.whr.length≤1048576
 token:c.q.token.length≤1048576
structure WS(H0:Heap)(n0:Nat)(B:List (Nat×AObj))(kw kb M:Nat)(bs:List UInt8)(H':Heap)(n':Nat):Prop where
 w:WSt H' n' kw kb M bs
 keep:∀p∈B,H' p.1=some p.2∧p.1≠kw∧p.1≠kb∧p.1<n'
 low:∀k,k<n0→H' k=H0 k
 gw:n0≤kw
 gb:n0≤kb
theorem WS.call{H0:Heap}{n0:Nat}{B:List (Nat×AObj)}{kw kb M M':Nat}{bs bs':List UInt8}{H1 H2:Heap}{n1 n2:Nat}{res:ARes}(h:WS H0 n0 B kw kb M bs H1 n1)(hk:WK H1 n1 kw kb M' bs' res H2 n2):WS H0 n0 B kw kb M' bs' H2 n2 where
 w:=hk.2.2.1
 keep:=fun p hp=>by
   obtain⟨h1,h2,h3,h4⟩:=h.keep p hp;exact⟨(hk.2.2.2 _ h4 h2 h3).trans h1,h2,h3,Nat.lt_of_lt_of_le h4 hk.2.1⟩
 low:=fun k hk2=>(hk.2.2.2 k (by have:=h.w.lw;have:=h.gw;omega) (by have:=h.gw;omega) (by have:=h.gb;omega)).trans (h.low k hk2)
 gw:=h.gw
 gb:=h.gb
theorem WS.drop{H0:Heap}{n0:Nat}{B:List (Nat×AObj)}{kw kb M:Nat}{bs:List UInt8}{H1:Heap}{n1:Nat}{p:Nat×AObj}(h:WS H0 n0 (p::B) kw kb M bs H1 n1):WS H0 n0 B kw kb M bs H1 n1:=
 {h with keep:=fun q hq=>h.keep q (List.mem_cons_of_mem _ hq)}
theorem WS.up{H0:Heap}{n0:Nat}{B:List (Nat×AObj)}{kw kb M M':Nat}{bs:List UInt8}{H1:Heap}{n1:Nat}(h:WS H0 n0 B kw kb M bs H1 n1)(hM:M≤M'):WS H0 n0 B kw kb M' bs H1 n1:={h with w:=h.w.up hM}
theorem Yj{α:Type}[Inhabited α](l:List α){i:Nat}(h:i<l.length):l.getD i default∈l:=by
 rw[List.getD,List.getElem?_eq_getElem h];exact List.getElem_mem _
def XL(k:Int):Bool:=k==3
def Q7(k:Int):Bool:=decide (4≤k)
def kOps(k:Int):Bool:=k==4
def VV(k:Int):Int:=if k=5 then 1 else if k=6 then 0 else if k=0 then 0 else -1
def W9(k:Int):Bool:=k==7
def kindAV(k:Int):AV:= .agg [.bool (XL k),.bool (Q7 k),.bool (kOps k),.int .i64 (VV k),.bool (W9 k)]
def LZ:List AV:=(List.range 8).map fun(i:Nat)=>kindAV i
def QQ:List Int:=[0,274646895,549293790,820201905,1098587580,1361435347,1640403810,1905808397,2197175160,2460548119,2722870694,2987750089,3280807620,3553878443,3811616794,4084100981]
def Ux:List AV:=QQ.map fun n=> .int .u32 n
structure GOK(gk gt:Nat)(H:Heap)(n:Nat):Prop where
 kindsC:gk≠gt→H gk=some (.glob 5 LZ)
 table:H gt=some (.glob 1 Ux)
 gek:gk<n
 get:gt<n
theorem GOK.at2{gk gt:Nat}{H H':Heap}{n n':Nat}(h:GOK gk gt H n)(hk:H' gk=H gk)(ht:H' gt=H gt)(hn:n≤n'):GOK gk gt H' n':=
 ⟨fun hne=>hk.trans (h.kindsC hne),ht.trans h.table,Nat.lt_of_lt_of_le h.gek hn,Nat.lt_of_lt_of_le h.get hn⟩
theorem GOK.on{gk gt:Nat}{H H':Heap}{n n':Nat}(h:GOK gk gt H n)(hl:∀k,k<n→H' k=H k)(hn:n≤n'):GOK gk gt H' n':=
 ⟨fun hne=>(hl gk h.gek).trans (h.kindsC hne),(hl gt h.get).trans h.table,Nat.lt_of_lt_of_le h.gek hn,Nat.lt_of_lt_of_le h.get hn⟩
def zq:QryE:=⟨[],[],[],[],0,0,0,false,[],[]⟩
def cb3(c:CmdE):Bool:=bout c.client (if XL c.kind then 1 else 0) (if XL c.kind||Q7 c.kind then 1099511627776 else 0)
def cb4(c:CmdE):Bool:=bif bout c.serial 0 1099511627776 then true else !((c.serial==0)==(c.client==0))
def cb5(c:CmdE):Bool:=bif (bif kOps c.kind then bout c.row.length 1 256 else false)then true else(bif !kOps c.kind then decide (0<(c.row.length:Int))else false)
def cb6(nf:Nat)(c:CmdE):Bool:=bif (bif (bif !kOps c.kind then decide (0<(c.conds.length:Int))else false)then true else decide (8<(c.conds.length:Int)))then true else !(c.conds.all (condOK nf))
def cb7(c:CmdE):Bool:=bif (bif kOps c.kind then bout c.ops.length 1 16 else false)then true else(bif !kOps c.kind then decide (0<(c.ops.length:Int))else false)
def cb8(nf:Nat)(c:CmdE):Bool:= !(c.ops.all (opOK nf))
def cb9(c:CmdE):Bool:=bif (bif decide (VV c.kind<0)then c.n !=0 else false)then true else(bif decide (0≤VV c.kind)then bout c.n (VV c.kind) 1099511627776 else false)
def tailC(c:CmdE):Int:=if decide (98304<((cmdB c).length:Int))then 2 else 0
def checkC(qc:Int)(s:List Fml)(c:CmdE):Int:=
 if Zy s !=0 then 28
 else if bout c.kind 1 7 then 141
 else if cb3 c then 142
 else if cb4 c then 143
 else if cb5 c then 20
 else if cb6 s.length c then 146
 else if cb7 c then 144
 else if cb8 s.length c then 145
 else if cb9 c then 148
 else if W9 c.kind then(if qc !=0 then qc else tailC c)
 else if !decide (c.q=zq)then 130
 else tailC c
end Go.Rt