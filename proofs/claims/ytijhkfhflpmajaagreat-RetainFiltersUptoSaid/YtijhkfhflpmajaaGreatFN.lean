/- Own layer: a stream of a Reader: what it is, told as data; an entry is pushed. Of the program; no condition. -/
import Derived.Test.YtijhkfhflpmajaaGreatFL
import Derived.Test.YtijhkfhflpmajaaGreatFJ
set_option linter.unusedSimpArgs false
set_option linter.unusedVariables false
namespace Go.Proofs.YtijhkfhflpmajaaGreat
open Go Go.Sx Go.Rt Go.Proofs
theorem Laid.frame {H H' : Heap} {n : Nat} {l : List Ent} (h : Laid H n l) (hr : ∀ k, n ≤ k → k < n + 3 + 4 * l.length → H' k = H k) : Laid H' n l where
  room := (hr _ (by omega) (by omega)).trans h.room
  ls := (hr _ (by omega) (by omega)).trans h.ls
  ws := (hr _ (by omega) (by omega)).trans h.ws
  bs := fun j hj => by
    obtain ⟨b1, b2, b3⟩ := h.bs j hj
    exact ⟨(hr _ (by omega) (by omega)).trans b1, (hr _ (by omega) (by omega)).trans b2, (hr _ (by omega) (by omega)).trans b3⟩
structure FKeys where
  kx : Nat
  kf : Nat
  kw : Nat
  kt : Nat
  ko : Nat
  kI : Nat
  kO : Nat
def FKeys.all (Y : FKeys) : List Nat := [Y.kx, Y.kf, Y.kw, Y.kt, Y.ko, Y.kI, Y.kO]
structure FNe (Y : FKeys) : Prop where
  xf : Y.kx ≠ Y.kf
  xw : Y.kx ≠ Y.kw
  xt : Y.kx ≠ Y.kt
  xo : Y.kx ≠ Y.ko
  xI : Y.kx ≠ Y.kI
  xO : Y.kx ≠ Y.kO
  fw : Y.kf ≠ Y.kw
  ft : Y.kf ≠ Y.kt
  fo : Y.kf ≠ Y.ko
  fI : Y.kf ≠ Y.kI
  fO : Y.kf ≠ Y.kO
  wt : Y.kw ≠ Y.kt
  wo : Y.kw ≠ Y.ko
  wI : Y.kw ≠ Y.kI
  wO : Y.kw ≠ Y.kO
  to : Y.kt ≠ Y.ko
  tI : Y.kt ≠ Y.kI
  tO : Y.kt ≠ Y.kO
  oI : Y.ko ≠ Y.kI
  oO : Y.ko ≠ Y.kO
  IO : Y.kI ≠ Y.kO
theorem FKeys.ne {Y : FKeys} (h : Y.all.Nodup) : FNe Y := by
  simp only [FKeys.all, List.nodup_cons, List.mem_cons, List.not_mem_nil, or_false, not_or, not_false_eq_true, List.nodup_nil, and_true] at h
  obtain ⟨⟨a1, a2, a3, a4, a5, a6⟩, ⟨b1, b2, b3, b4, b5⟩, ⟨c1, c2, c3, c4⟩, ⟨d1, d2, d3⟩, ⟨e1, e2⟩, f1⟩ := h
  exact ⟨a1, a2, a3, a4, a5, a6, b1, b2, b3, b4, b5, c1, c2, c3, c4, d1, d2, d3, e1, e2, f1⟩
theorem FNe.nd {Y : FKeys} (h : FNe Y) : Y.all.Nodup := by
  obtain ⟨a1, a2, a3, a4, a5, a6, b1, b2, b3, b4, b5, c1, c2, c3, c4, d1, d2, d3, e1, e2, f1⟩ := h
  simp [FKeys.all, *]
def drop0 : AV := .agg [.int .i64 0, .int .i64 0, .int .i64 0, .int .i64 0, .int .i64 0]
structure RSt where
  i : Nat
  w : Wlk
  st : SSt
  A : List Ent
  I : List Ent
  O : List Ent
  es : List Ev
  last : Ent
  has : Bool
  vI : Nat
  vO : Nat
structure RFl (c : Cas) (Y : FKeys) (x : RSt) (H : Heap) (n : Nat) : Prop where
  b : boundsE c.s c.clock [c.t] c.n = 0
  ri : RI c.s c.clock c.t c.n x.i x.w x.st x.A x.I x.O x.es x.last x.has
  fit : x.last.fits
  lt : ∀ k ∈ Y.all, k < n
  nd : Y.all.Nodup
  ox : H Y.kx = some (.arr 0 17 [flowAV .nilp (.loc Y.kf 0 0 0 []) (.osl Y.kI x.vI 0 x.I.length) (.osl Y.kO x.vO 0 x.O.length) x.last x.has drop0])
  oI : H Y.kI = some (.arr x.vI 7 (x.I.map entAV))
  oO : H Y.kO = some (.arr x.vO 7 (x.O.map entAV))
  of : H Y.kf = some (.arr 0 2 [.agg [.agg [.loc Y.kw 0 0 0 []], .loc Y.kt 0 0 0 []]])
  ah : ∃ lo h, Ahead (shownTk Y.kw Y.kt Y.ko lo h) H n x.w x.st
end Go.Proofs.YtijhkfhflpmajaaGreat
namespace Go.Proofs.YtijhkfhflpmajaaGreat
open Go Go.Sx Go.Rt Go.Proofs
theorem Ret.live {P : Program} {f : FuncId} {args : List AV} {H : Heap} {n : Nat} {r : AV} {H' : Heap} {n' k : Nat} {o : AObj} (hk : H k = some o) (h : k < n → Ret P f args H n r H' n') : Ret P f args H n r H' n' := fun c w vs hs hr => by
  rcases Nat.lt_or_ge k n with h1 | h1
  · exact h h1 c w vs hs hr
  · have := (hs.fresh k h1).1; rw [this] at hk; cases hk
def noE : Ent := ⟨[], 0, [], 0, 0, 0, []⟩
end Go.Proofs.YtijhkfhflpmajaaGreat
namespace Go.Proofs.YtijhkfhflpmajaaGreat
open Go Go.Sx Go.Rt Go.Proofs
theorem c_law_want_f (kx : Nat) {kf : Nat} (R I O D : AV) (last : Ent) (has : Bool) (c : Cas) (kI vI : Nat) (l : List Ent) (hl : l.length ≤ 1000000000) (hf : ∀ e ∈ l, e.fits) (H : Heap) (n : Nat) (hkx : kx < n) (hkI : kI < n) (hx : H kx = some (.arr 0 17 [flowAV (.loc kf 0 0 0 []) R I O last has D])) (hI : H kI = some (.arr vI 7 (l.map entAV))) :
    Ret Tryz.prog 89 [.loc kx 0 0 0 [], casAV c, .osl kI vI 0 l.length] H n (entsAV (rSquashE c.s c.clock c.major c.low l).1) H n := by
  simp only [flowAV] at hx
  have q1 : (kx = n) = False := by simp; omega
  refine Ret.fin ?_
  refine acalls_of_awp Tryz.func89 rfl Tryz.ntmps89 (congrArg Array.toList Tryz.results89) (by simp) ?_
  simp only [go_sem]
  refine awp_reg zs [0, 2, 4] fun K hK => ?_
  try simp only [go_sem, seval, casAV]
  refine hK _ _ _ ?_; clear hK K
  refine awp_seq_k fun K1 hK1 => ?_
  refine awp_reg zs [2, 4, 15] fun K hK => ?_
  try simp only [go_sem, seval, hx, q1]
  refine hK _ _ _ ?_; clear hK K
  refine awp_cnd (fun hb => ?_) (fun hb => ?_)
  ·skip
   refine awp_reg zs [7] fun K hK => ?_
   try simp only [go_sem, seval]
   refine callK_use Tryz.func23 rfl rfl rfl ((p_ref3_Squash c.s c.clock c.low c.major kI vI l hl hf _ _ (by omega) ((Heap.put_ne _ _ (by omega)).trans hI))) ?_
   try simp only [go_sem, seval]
   refine hK _ _ _ ?_; clear hK K
   refine awp_reg zs [6] fun K hK => ?_
   try simp only [go_sem, seval]
   refine hK _ _ _ ?_; clear hK K
   refine awp_ret ?_
   try simp only [go_sem, seval]
   exact ⟨_, rfl, fun k hk => Heap.put_ne _ _ (by omega), .kl (kls_ents _ _)⟩
  ·skip
   exact absurd hb (by simp)
   --dead
theorem c_retain_Dropped (kw kt ko kf : Nat) (st : KSt) (H : Heap) (n : Nat) (hkt : kt < n) (hkf : H kf = some (.arr 0 2 [.agg [.agg [.loc kw 0 0 0 []], .loc kt 0 0 0 []]])) (hk : H kt = some (.arr 0 9 [keptAV kw ko st])) (hfn : kf < n) :
    Ret Tryz.prog 91 [.loc kf 0 0 0 []] H n (dropAV st.drp) H n := by
  have q1 : (kt = n) = False := by simp; omega
  have q2 : (kf = n) = False := by simp; omega
  simp only [keptAV] at hk
  refine Ret.fin ?_
  refine acalls_of_awp Tryz.func91 rfl Tryz.ntmps91 (congrArg Array.toList Tryz.results91) (by simp) ?_
  simp only [go_sem]
  refine awp_reg zs [0, 2] fun K hK => ?_
  try simp only [go_sem, seval]
  refine hK _ _ _ ?_; clear hK K
  refine awp_reg zs [2] fun K hK => ?_
  try simp only [go_sem, seval, hk, hkf, q1, q2]
  refine hK _ _ _ ?_; clear hK K
  refine awp_ret ?_
  try simp only [go_sem, seval]
  exact ⟨_, rfl, fun k hk => Heap.put_ne _ _ (by omega), .kl (by simp [AV.kl, AV.kls])⟩
theorem c_retain_Dropped2 (kw kt ko kf : Nat) (st : KSt) (D : Drp) (hd : st.drp = D) (H : Heap) (n : Nat) (hkt : kt < n) (hkf : H kf = some (.arr 0 2 [.agg [.agg [.loc kw 0 0 0 []], .loc kt 0 0 0 []]])) (hk : H kt = some (.arr 0 9 [keptAV kw ko st])) (hfn : kf < n) :
    Ret Tryz.prog 91 [.loc kf 0 0 0 []] H n (dropAV D) H n := hd ▸ c_retain_Dropped kw kt ko kf st H n hkt hkf hk hfn
theorem tNums_of {P : Program} {t : TypeId} {n : Nat} (h1 : P.underlying t = some (.struct (P.fieldsOf t))) (h2 : P.stoodInHeld t = false) (h3 : P.eqGuardType P.depth t = false) (h4 : ((P.fieldsOf t).toList.zipIdx.all fun p => p.1.name != "_" && p.1.offset == p.2 && tInt P p.1.type == some .i64) = true) (h5 : (P.fieldsOf t).toList.length = n) : tNums P t n := by
  refine ⟨h1, h2, h3, h5, fun i f hf => ?_⟩
  have hm : (f, i) ∈ (P.fieldsOf t).toList.zipIdx := by
    rw [List.mem_zipIdx_iff_getElem?]; exact hf
  have := List.all_eq_true.1 h4 _ hm
  simp only [Bool.and_eq_true, bne_iff_ne, ne_eq, beq_iff_eq] at this
  obtain ⟨⟨a, b⟩, c⟩ := this
  refine ⟨a, b, ?_⟩
  unfold tInt at c
  split at c
  · rename_i k hk; cases c; exact hk
  · cases c
theorem t_nums : tNums Tryz.prog 92 5 := tNums_of (by kernel_rfl) (by kernel_rfl) (by kernel_rfl) (by kernel_rfl) (by kernel_rfl)
end Go.Proofs.YtijhkfhflpmajaaGreat
namespace Go.Proofs.YtijhkfhflpmajaaGreat
open Go Go.Sx Go.Rt Go.Proofs
structure GSt where
  i : Nat
  w : Wlk
  st : KSt
  A : List Ent
  I : List Ent
  O : List Ent
  es : List Ev
  last : Ent
  has : Bool
  vI : Nat
  vO : Nat
  D : Drp
structure GFl (c : Cas) (Y : FKeys) (x : GSt) (H : Heap) (n : Nat) : Prop where
  b : boundsE c.s c.clock [c.low] 1 = 0
  ri : KI c.s c.clock c.major c.low x.i x.w x.st x.A x.I x.O x.es x.last x.has x.D
  fit : x.last.fits
  lt : ∀ k ∈ Y.all, k < n
  nd : Y.all.Nodup
  ox : H Y.kx = some (.arr 0 17 [flowAV (.loc Y.kf 0 0 0 []) .nilp (.osl Y.kI x.vI 0 x.I.length) (.osl Y.kO x.vO 0 x.O.length) x.last x.has (dropAV x.D)])
  oI : H Y.kI = some (.arr x.vI 7 (x.I.map entAV))
  oO : H Y.kO = some (.arr x.vO 7 (x.O.map entAV))
  of : H Y.kf = some (.arr 0 2 [.agg [.agg [.loc Y.kw 0 0 0 []], .loc Y.kt 0 0 0 []]])
  ah : ∃ lo h, Ahead (keptTk Y.kw Y.kt Y.ko lo h) H n x.w x.st
theorem kah_frame {kw kt ko lo : Nat} {h : KSep kw kt ko lo} {H H' : Heap} {n n' : Nat} {w : Wlk} {st : KSt} (ha : Ahead (keptTk kw kt ko lo h) H n w st) (h0 : st.out = []) (hn : n ≤ n') (h1 : H' kw = H kw) (h2 : H' kt = H kt) (h3 : H' ko = H ko) : ∃ h : KSep kw kt ko n', Ahead (keptTk kw kt ko n' h) H' n' w st := by
  obtain ⟨a1, a2, a3, a4, a5, xs, a6, a7, a8⟩ := ha
  have b1 : kw < n := a1
  have b2 : kt < n := a2 kt (.inl rfl)
  have b3 : ko < n := a2 ko (.inr rfl)
  have hxs : xs = [] := by rw [h0] at a6; exact List.map_eq_nil_iff.1 a6
  subst hxs
  exact ⟨⟨h.a, h.b, h.c, by omega, by omega, by omega⟩, ⟨by show kw < n'; omega, fun k hk => by rcases hk with rfl | rfl <;> omega, h1.trans a3, Nat.le_refl _, h2.trans a5, [], a6, h3.trans a7, MineL.nil _ _ _⟩⟩
theorem kah_same {kw kt ko lo lo' : Nat} {h : KSep kw kt ko lo} {h' : KSep kw kt ko lo'} {H H' : Heap} {n n' : Nat} {w : Wlk} {st : KSt} (ha : Ahead (keptTk kw kt ko lo h) H n w st) (h0 : st.out = []) (hw : H' kw = some (.arr 0 25 [walkAV (keptTk kw kt ko lo' h') w])) (ht : (keptTk kw kt ko lo' h').holds st H' n') : H' kw = H kw ∧ H' kt = H kt ∧ H' ko = H ko := by
  obtain ⟨a1, a2, a3, a4, a5, xs, a6, a7, a8⟩ := ha
  obtain ⟨b4, b5, ys, b6, b7, b8⟩ := ht
  have hxs : xs = [] := by rw [h0] at a6; exact List.map_eq_nil_iff.1 a6
  have hys : ys = [] := by rw [h0] at b6; exact List.map_eq_nil_iff.1 b6
  subst hxs; subst hys
  exact ⟨hw.trans a3.symm, b5.trans a5.symm, b7.trans a7.symm⟩
theorem GFl.frame {c : Cas} {Y : FKeys} {x : GSt} {H H' : Heap} {n n' : Nat} (h : GFl c Y x H n) (hn : n ≤ n') (hr : ∀ k ∈ Y.all, H' k = H k) : GFl c Y x H' n' := by
  obtain ⟨lo, hk, ha⟩ := h.ah
  exact {
    b := h.b, ri := h.ri, fit := h.fit
    lt := fun k hk => Nat.lt_of_lt_of_le (h.lt k hk) hn
    nd := h.nd
    ox := (hr _ (by simp [FKeys.all])).trans h.ox
    oI := (hr _ (by simp [FKeys.all])).trans h.oI
    oO := (hr _ (by simp [FKeys.all])).trans h.oO
    of := (hr _ (by simp [FKeys.all])).trans h.of
    ah := ⟨_, kah_frame ha h.ri.out hn (hr _ (by simp [FKeys.all])) (hr _ (by simp [FKeys.all])) (hr _ (by simp [FKeys.all]))⟩ }
def GStep (c : Cas) (Y : FKeys) (x : GSt) (di dI : Nat) (H : Heap) (n : Nat) (res : ARes) (H' : Heap) (n' : Nat) : Prop :=
  res = .val (.bool true) ∧ n ≤ n' ∧ (∃ Y' x', GFl c Y' x' H' n' ∧ Y'.kx = Y.kx ∧ x'.i ≤ x.i + di ∧ x'.I.length ≤ x.I.length + dI ∧ ∀ k ∈ Y'.all, k ∈ Y.all ∨ n ≤ k) ∧ ∀ k, k < n → k ∉ Y.all → H' k = H k
theorem g_push_clash (c : Cas) (Y : FKeys) (x : GSt) (e : Ent) (H : Heap) (n : Nat) (h : GFl c Y x H n) (hI : x.I.length ≤ 1000000000) (hcl : clashB x.I e = true) :
    ACalls Tryz.prog 58 [.loc Y.kx 0 0 0 [], casAV c, entAV e] H n (GStep c Y x 2 1 H n) := by
  have hkx := h.lt Y.kx (by simp [FKeys.all])
  have hkI := h.lt Y.kI (by simp [FKeys.all])
  have hox := h.ox
  have hoI := h.oI
  refine acalls_of_awp Tryz.func58 rfl Tryz.ntmps58 (congrArg Array.toList Tryz.results58) (by simp) ?_
  simp only [go_sem]
  refine awp_reg zs [0, 4, 5] fun K hK => ?_
  try simp only [go_sem, seval, casAV]
  refine hK _ _ _ ?_; clear hK K
  refine awp_seq_k fun K1 hK1 => ?_
  refine awp_reg zs [0, 4, 5, 14] fun K hK => ?_
  try simp only [go_sem, seval]
  refine callK_use Tryz.func92 rfl rfl rfl ((c_law_clashes Y.kx _ _ _ _ rfl rfl x.last x.has Y.kI x.vI x.I hI e _ _ (by omega) (by omega) ((Heap.put_ne _ _ (by omega)).trans ((Heap.put_ne _ _ (by omega)).trans hox)) ((Heap.put_ne _ _ (by omega)).trans ((Heap.put_ne _ _ (by omega)).trans hoI)))) ?_
  refine hK _ _ _ ?_; clear hK K
  refine awp_cnd (fun hb => ?_) (fun hb => ?_)
  ·skip
   refine awp_reg zs [6] fun K hK => ?_
   try simp only [go_sem, seval]
   refine hK _ _ _ ?_; clear hK K
   refine awp_ret ?_
   try simp only [go_sem, seval]
   refine ⟨rfl, by omega, ⟨Y, x, h.frame (by omega) fun k hk => ?_, rfl, by omega, by omega, fun k hk => .inl hk⟩, fun k hk _ => ?_⟩
   · have := h.lt k hk; exact (Heap.put_ne _ _ (by omega)).trans (Heap.put_ne _ _ (by omega))
   · exact (Heap.put_ne _ _ (by omega)).trans (Heap.put_ne _ _ (by omega))
  ·skip
   exact absurd (hcl.symm.trans hb) (by decide)
   --dead
set_option maxHeartbeats 1600000 in
theorem g_push_err (c : Cas) (Y : FKeys) (x : GSt) (e : Ent) (he : e.row.length ≤ 70000000000000 ∧ e.qual.length ≤ 70000000000000 ∧ e.value.length ≤ 70000000000000) (H : Heap) (n : Nat) (h : GFl c Y x H n) (hi : x.i ≤ 1000000000) (hI : x.I.length ≤ 100000000) (hcl : clashB x.I e = false) (h0 : (pushR x.w e).2 ≠ 0) :
    ACalls Tryz.prog 58 [.loc Y.kx 0 0 0 [], casAV c, entAV e] H n (GStep c Y x 2 1 H n) := by
  obtain ⟨lo, hk, hah⟩ := h.ah
  have hN := FKeys.ne h.nd
  have hkx := h.lt Y.kx (by simp [FKeys.all])
  have hkf := h.lt Y.kf (by simp [FKeys.all])
  have hkw := h.lt Y.kw (by simp [FKeys.all])
  have hkt := h.lt Y.kt (by simp [FKeys.all])
  have hko := h.lt Y.ko (by simp [FKeys.all])
  have hkI := h.lt Y.kI (by simp [FKeys.all])
  have hkO := h.lt Y.kO (by simp [FKeys.all])
  have hox := h.ox
  have hoI := h.oI
  have hpe : pushableE c.s x.last x.has e = (pushR x.w e).2 := pushable_eq h.ri.tk h.ri.wi.sch e
  have hfs : ∀ y ∈ [e], y.row.length ≤ 70000000000000 ∧ y.qual.length ≤ 70000000000000 ∧ y.value.length ≤ 70000000000000 := fun y hy => by rw [List.mem_singleton.1 hy]; exact he
  have hef : e.fits := ⟨by omega, by omega, by omega⟩
  have rx : (0 : Nat) = 0 := rfl
  have rc : (0 : Nat) = 0 := rfl
  have re9 : (0 : Nat) = 0 := rfl
  have rr : (0 : Nat) = 0 := rfl
  have rl : (0 : Nat) = 0 := rfl
  have rI : (0 : Nat) = 0 := rfl
  have rO : (0 : Nat) = 0 := rfl
  refine acalls_of_awp Tryz.func58 rfl Tryz.ntmps58 (congrArg Array.toList Tryz.results58) (by simp) ?_
  simp only [go_sem]
  refine awp_reg zs [0, 4, 5] fun K hK => ?_
  try simp only [go_sem, seval, casAV]
  refine hK _ _ _ ?_; clear hK K
  refine awp_seq_k fun K1 hK1 => ?_
  refine awp_reg zs [0, 4, 5, 14] fun K hK => ?_
  try simp only [go_sem, seval]
  refine callK_use Tryz.func92 rfl rfl rfl ((c_law_clashes Y.kx _ _ _ _ rfl rfl x.last x.has Y.kI x.vI x.I (by omega) e _ _ (by omega) (by omega) ((Heap.put_ne _ _ (by omega)).trans ((Heap.put_ne _ _ (by omega)).trans hox)) ((Heap.put_ne _ _ (by omega)).trans ((Heap.put_ne _ _ (by omega)).trans hoI)))) ?_
  refine hK _ _ _ ?_; clear hK K
  refine awp_cnd (fun hb => ?_) (fun hb => ?_)
  ·skip
   exact absurd (hcl.symm.trans hb) (by decide)
   --dead
  ·skip
   refine awp_skip ?_
   try simp only [go_sem, seval]
   refine hK1 _ _ _ ?_
   first | clear hK1 K1 | skip
   refine awp_reg zs [0, 4, 5, 7] fun K hK => ?_
   try simp only [go_sem, seval]
   repeat (first | (refine And.intro ?_ ?_; · first | exact ⟨rfl, by simp [AV.sz, AV.szs, AV.memOK]⟩) | refine peel ?_)
   refine callK_useK (args' := [entsAV [e]]) Tryz.func12 rfl rfl rfl (c_law_laid [e] (by simp) (fun y hy => by rw [List.mem_singleton.1 hy]; exact ⟨hef, he⟩) _ _) ?_ ?_
   rotate_left
   · intro p H' n' h; cases h.1
   rintro r Hl nl ⟨hrl, hnl, hLd, hlow⟩
   cases hrl
   have hnl9 : nl = n + 9 := by rw [hnl]; simp
   have hfr : ∀ k, k < n → Hl k = H k := fun k hk => (hlow k (by omega)).trans ((Heap.put_ne _ _ (by omega)).trans (Heap.put_ne _ _ (by omega)))
   have rx := (hfr Y.kx hkx).trans hox
   have rc : Hl n = _ := (hlow n (by omega)).trans ((Heap.put_ne _ _ (by omega)).trans (Heap.put_same _ _ _))
   have re9 : Hl (n + 1) = _ := (hlow (n + 1) (by omega)).trans (Heap.put_same _ _ _)
   have rr : Hl (n + 2) = some (.arr 0 2 [.agg [.osl (n + 3) 2 0 2, .osl (n + 4) 1 0 3]]) := hLd.room
   have rl : Hl (n + 3) = some (.arr 2 7 [lentAV (lx (n + 2) 0 e), mkE (-9)]) := hLd.ls
   have hx0 : (lx (n + 2) 0 e).ok Hl nl := (hLd.ok (m := nl) (by rw [hnl]; exact Nat.le_refl _)).ok _ (by simp [lxs])
   have hx0e : (lx (n + 2) 0 e).e = e := rfl
   have hx0k : ∀ k ∈ (lx (n + 2) 0 e).ks, n ≤ k := fun k hk9 => by simp [LEnt.ks, lx] at hk9; omega
   generalize lx (n + 2) 0 e = x0 at *
   subst hx0e
   obtain ⟨hk2, hah2⟩ := kah_frame (H' := Hl) (n' := nl) hah h.ri.out (by omega) (hfr _ hkw) (hfr _ hkt) (hfr _ hko)
   have hstr : StrOK (keptTk Y.kw Y.kt Y.ko nl hk2) Hl nl Y.kf x.w x.st := ⟨hah2, (hfr _ hkf).trans h.of, by omega, hN.fw, fun hk9 => by rcases hk9 with e9 | e9; exact hN.ft e9; exact hN.fo e9⟩
   obtain ⟨o1, o2, o3, o4, o5⟩ := h.ri.oks hk2 h.b (by omega) x0.e
   try simp only [go_sem, seval]
   repeat (first | (refine And.intro ?_ ?_; · first | exact ⟨rfl, by simp [AV.sz, AV.szs, AV.memOK]⟩) | refine peel ?_)
   refine hK _ _ _ ?_; clear hK K
   refine awp_reg zs [0, 4, 5, 7] fun K hK => ?_
   try simp only [go_sem, seval]
   refine hK _ _ _ ?_; clear hK K
   refine awp_reg zs [0, 4, 5, 7] fun K hK => ?_
   try simp only [go_sem, seval]
   refine hK _ _ _ ?_; clear hK K
   refine awp_seq_k fun K2 hK2 => ?_
   refine awp_reg zs [0, 4, 5, 7, 22] fun K hK => ?_
   try simp only [go_sem, seval, rx, flowAV]
   refine hK _ _ _ ?_; clear hK K
   refine awp_cnd (fun hb => ?_) (fun hb => ?_)
   ·skip
    refine awp_drw1 rfl zs [0, 4, 5, 7, 8, 9] [.m, .q, .q, .q, .m, .q, .q, .q, .q, .q, .w [], .m, .q, .q, .q, .q] (by kernel_rfl) (fun _ _ _ _ _ h => h) fun K hK => ?_
    try simp only [go_sem, seval, rx, rr, rl, flowAV]
    refine callK_useK (args' := [.loc Y.kf 0 0 0 [], lentAV x0]) Tryz.func93 rfl rfl rfl (f_Push Y.kw Y.kt Y.ko nl hk2 x.w x.st x0 Y.kf Hl nl hstr hx0 (fun k hk9 => by have := hx0k k hk9; omega) hef o1 o2 o3 o4 o5) ?_ ?_
    rotate_left
    · intro p H' n' hp; cases (hp.1 h0).1
    intro r H2 n2 hP
    obtain ⟨hr2, hL⟩ := hP.1 h0
    cases hr2
    have hn2 := hL.le
    have hf2 : ∀ k, k < nl → k ≠ Y.kw → k ≠ Y.kt → k ≠ Y.ko → H2 k = Hl k := fun k g1 g2 g3 g4 => hL.rest k g1 g2 (fun h9 => by rcases h9 with e9 | e9; exact g3 e9; exact g4 e9)
    have rx := (hf2 _ (by omega) hN.xw hN.xt hN.xo).trans rx
    have rc := (hf2 _ (by omega) (by omega) (by omega) (by omega)).trans rc
    have re9 := (hf2 _ (by omega) (by omega) (by omega) (by omega)).trans re9
    try simp only [go_sem, seval]
    refine hK _ _ _ ?_; clear hK K
    try simp only [go_sem, seval]
    refine hK2 _ _ _ ?_
    first | clear hK2 K2 | skip
    refine awp_drw rfl zs [0, 4, 5, 7, 8, 9, 10] [.q, .q, .m, .q, .q, .q, .m, .q, .q, .q, .q, .c, .q] (by kernel_rfl) (fun _ _ _ _ _ h => h) fun K hK => ?_
    try simp only [go_sem, seval, rx, rc, re9, flowAV]
    refine callQG_use Tryz.func95 rfl rfl rfl (fun _ n => (c_ref3_Pushable c.s x.last h.fit x.has x0.e _ _)) ?_
    try simp only [go_sem, seval, hpe]
    refine hK _ _ _ ?_; clear hK K
    refine awp_seq_k fun K3 hK3 => ?_
    refine awp_reg zs [0, 4, 5, 8, 10, 73] fun K hK => ?_
    try simp only [go_sem, seval]
    repeat (first | (refine And.intro ?_ ?_; · first | exact ⟨rfl, by simp [AV.sz, AV.szs, AV.memOK]⟩ | exact fun _ => ⟨rfl, by simp [AV.sz, AV.szs, AV.memOK]⟩) | refine peel ?_)
    refine callK_use Tryz.func16 rfl rfl rfl ((c_law_num _ _ _)) ?_
    try simp only [go_sem, seval, re9, bne_self_eq_false, show (false == false) = true from rfl, forall_const, show (true = false) = False from eq_false (by decide), false_implies, and_true]
    repeat (first | (refine And.intro ?_ ?_; · first | exact ⟨rfl, by simp [AV.sz, AV.szs, AV.memOK]⟩ | exact fun _ => ⟨rfl, by simp [AV.sz, AV.szs, AV.memOK]⟩) | refine peel ?_)
    refine callG_true rfl ?_
    refine callK_useK (args' := [.loc (n + 2) 0 0 0 [], entsAV [x0.e]]) Tryz.func59 rfl rfl rfl (c_law_stands2 [x0.e] (by simp) hfs H2 n2 (n + 2) (by simp; omega) (hLd.frame fun k g1 g2 => hf2 k (by rw [hnl]; omega) (by omega) (by omega) (by omega))) ?_ ?_
    rotate_left
    · intro p H' n' h; cases h.1
    rintro r H3 n3 ⟨hr3, hn3, hf3⟩
    cases hr3
    try simp only [go_sem, seval, forall_const]
    repeat (first | (refine And.intro ?_ ?_; · first | exact ⟨rfl, by simp [AV.sz, AV.szs, AV.memOK]⟩ | exact fun _ => ⟨rfl, by simp [AV.sz, AV.szs, AV.memOK]⟩) | refine peel ?_)
    refine hK _ _ _ ?_; clear hK K
    refine awp_cnd (fun hb => ?_) (fun hb => ?_)
    ·skip
     exact absurd hb (by simp)
     --dead
    ·skip
     refine awp_skip ?_
     try simp only [go_sem, seval]
     refine hK3 _ _ _ ?_
     first | clear hK3 K3 | skip
     refine awp_seq_k fun K4 hK4 => ?_
     refine awp_reg zs [0, 4, 5, 8, 75] fun K hK => ?_
     try simp only [go_sem, seval]
     refine hK _ _ _ ?_; clear hK K
     refine awp_cnd (fun hb => ?_) (fun hb => ?_)
     ·skip
      refine awp_reg zs [6] fun K hK => ?_
      try simp only [go_sem, seval]
      refine hK _ _ _ ?_; clear hK K
      refine awp_ret ?_
      try simp only [go_sem, seval]
      obtain ⟨s1, s2, s3⟩ := kah_same hah h.ri.out hL.walk hL.tk
      have hall : ∀ k, k < n → H3 k = H k := fun k g1 => by
        rw [hf3 k (.inl (by omega))]
        by_cases e1 : k = Y.kw
        · rw [e1]; exact s1
        · by_cases e2 : k = Y.kt
          · rw [e2]; exact s2
          · by_cases e3 : k = Y.ko
            · rw [e3]; exact s3
            · rw [hf2 k (by omega) e1 e2 e3, hfr k g1]
      exact ⟨by first | rfl | simp, by omega, ⟨Y, x, h.frame (by omega) fun k hk => hall k (h.lt k hk), rfl, by omega, by omega, fun k hk => .inl hk⟩, fun k hk _ => hall k hk⟩
     ·skip
      exact absurd hb (by simp [h0])
      --dead
   ·skip
    exact absurd hb (by simp)
    --dead
set_option maxHeartbeats 1600000 in
theorem g_push_ok (c : Cas) (Y : FKeys) (x : GSt) (e : Ent) (he : e.row.length ≤ 70000000000000 ∧ e.qual.length ≤ 70000000000000 ∧ e.value.length ≤ 70000000000000) (H : Heap) (n : Nat) (h : GFl c Y x H n) (hi : x.i ≤ 1000000000) (hI : x.I.length ≤ 2000000) (hcl : clashB x.I e = false) (h0 : (pushR x.w e).2 = 0) :
    ACalls Tryz.prog 58 [.loc Y.kx 0 0 0 [], casAV c, entAV e] H n (GStep c Y x 2 1 H n) := by
  obtain ⟨lo, hk, hah⟩ := h.ah
  have hN := FKeys.ne h.nd
  have hkx := h.lt Y.kx (by simp [FKeys.all])
  have hkf := h.lt Y.kf (by simp [FKeys.all])
  have hkw := h.lt Y.kw (by simp [FKeys.all])
  have hkt := h.lt Y.kt (by simp [FKeys.all])
  have hko := h.lt Y.ko (by simp [FKeys.all])
  have hkI := h.lt Y.kI (by simp [FKeys.all])
  have hkO := h.lt Y.kO (by simp [FKeys.all])
  have hox := h.ox
  have hoI := h.oI
  have hpe : pushableE c.s x.last x.has e = (pushR x.w e).2 := pushable_eq h.ri.tk h.ri.wi.sch e
  have hfs : ∀ y ∈ [e], y.row.length ≤ 70000000000000 ∧ y.qual.length ≤ 70000000000000 ∧ y.value.length ≤ 70000000000000 := fun y hy => by rw [List.mem_singleton.1 hy]; exact he
  have hef : e.fits := ⟨by omega, by omega, by omega⟩
  have rx : (0 : Nat) = 0 := rfl
  have rc : (0 : Nat) = 0 := rfl
  have re9 : (0 : Nat) = 0 := rfl
  have rr : (0 : Nat) = 0 := rfl
  have rl : (0 : Nat) = 0 := rfl
  have rI : (0 : Nat) = 0 := rfl
  have rO : (0 : Nat) = 0 := rfl
  have qxO : (Y.kx = Y.kO) = False := eq_false hN.xO
  have qxI : (Y.kx = Y.kI) = False := eq_false hN.xI
  have q9x : (n + 1 = Y.kx) = False := by simp; omega
  have q9I : (n + 1 = Y.kI) = False := by simp; omega
  have qOx : (Y.kO = Y.kx) = False := eq_false (Ne.symm hN.xO)
  have qIx : (Y.kI = Y.kx) = False := eq_false (Ne.symm hN.xI)
  refine acalls_of_awp Tryz.func58 rfl Tryz.ntmps58 (congrArg Array.toList Tryz.results58) (by simp) ?_
  simp only [go_sem]
  refine awp_reg zs [0, 4, 5] fun K hK => ?_
  try simp only [go_sem, seval, casAV]
  refine hK _ _ _ ?_; clear hK K
  refine awp_seq_k fun K1 hK1 => ?_
  refine awp_reg zs [0, 4, 5, 14] fun K hK => ?_
  try simp only [go_sem, seval]
  refine callK_use Tryz.func92 rfl rfl rfl ((c_law_clashes Y.kx _ _ _ _ rfl rfl x.last x.has Y.kI x.vI x.I (by omega) e _ _ (by omega) (by omega) ((Heap.put_ne _ _ (by omega)).trans ((Heap.put_ne _ _ (by omega)).trans hox)) ((Heap.put_ne _ _ (by omega)).trans ((Heap.put_ne _ _ (by omega)).trans hoI)))) ?_
  refine hK _ _ _ ?_; clear hK K
  refine awp_cnd (fun hb => ?_) (fun hb => ?_)
  ·skip
   exact absurd (hcl.symm.trans hb) (by decide)
   --dead
  ·skip
   refine awp_skip ?_
   try simp only [go_sem, seval]
   refine hK1 _ _ _ ?_
   first | clear hK1 K1 | skip
   refine awp_reg zs [0, 4, 5, 7] fun K hK => ?_
   try simp only [go_sem, seval]
   repeat (first | (refine And.intro ?_ ?_; · first | exact ⟨rfl, by simp [AV.sz, AV.szs, AV.memOK]⟩) | refine peel ?_)
   refine callK_useK (args' := [entsAV [e]]) Tryz.func12 rfl rfl rfl (c_law_laid [e] (by simp) (fun y hy => by rw [List.mem_singleton.1 hy]; exact ⟨hef, he⟩) _ _) ?_ ?_
   rotate_left
   · intro p H' n' h; cases h.1
   rintro r Hl nl ⟨hrl, hnl, hLd, hlow⟩
   cases hrl
   have hnl9 : nl = n + 9 := by rw [hnl]; simp
   have hfr : ∀ k, k < n → Hl k = H k := fun k hk => (hlow k (by omega)).trans ((Heap.put_ne _ _ (by omega)).trans (Heap.put_ne _ _ (by omega)))
   have rx := (hfr Y.kx hkx).trans hox
   have rc : Hl n = _ := (hlow n (by omega)).trans ((Heap.put_ne _ _ (by omega)).trans (Heap.put_same _ _ _))
   have re9 : Hl (n + 1) = _ := (hlow (n + 1) (by omega)).trans (Heap.put_same _ _ _)
   have rr : Hl (n + 2) = some (.arr 0 2 [.agg [.osl (n + 3) 2 0 2, .osl (n + 4) 1 0 3]]) := hLd.room
   have rl : Hl (n + 3) = some (.arr 2 7 [lentAV (lx (n + 2) 0 e), mkE (-9)]) := hLd.ls
   have hx0 : (lx (n + 2) 0 e).ok Hl nl := (hLd.ok (m := nl) (by rw [hnl]; exact Nat.le_refl _)).ok _ (by simp [lxs])
   have hx0e : (lx (n + 2) 0 e).e = e := rfl
   have hx0k : ∀ k ∈ (lx (n + 2) 0 e).ks, n ≤ k := fun k hk9 => by simp [LEnt.ks, lx] at hk9; omega
   generalize lx (n + 2) 0 e = x0 at *
   subst hx0e
   obtain ⟨hk2, hah2⟩ := kah_frame (H' := Hl) (n' := nl) hah h.ri.out (by omega) (hfr _ hkw) (hfr _ hkt) (hfr _ hko)
   have hstr : StrOK (keptTk Y.kw Y.kt Y.ko nl hk2) Hl nl Y.kf x.w x.st := ⟨hah2, (hfr _ hkf).trans h.of, by omega, hN.fw, fun hk9 => by rcases hk9 with e9 | e9; exact hN.ft e9; exact hN.fo e9⟩
   obtain ⟨o1, o2, o3, o4, o5⟩ := h.ri.oks hk2 h.b (by omega) x0.e
   try simp only [go_sem, seval]
   repeat (first | (refine And.intro ?_ ?_; · first | exact ⟨rfl, by simp [AV.sz, AV.szs, AV.memOK]⟩) | refine peel ?_)
   refine hK _ _ _ ?_; clear hK K
   refine awp_reg zs [0, 4, 5, 7] fun K hK => ?_
   try simp only [go_sem, seval]
   refine hK _ _ _ ?_; clear hK K
   refine awp_reg zs [0, 4, 5, 7] fun K hK => ?_
   try simp only [go_sem, seval]
   refine hK _ _ _ ?_; clear hK K
   refine awp_seq_k fun K2 hK2 => ?_
   refine awp_reg zs [0, 4, 5, 7, 22] fun K hK => ?_
   try simp only [go_sem, seval, rx, flowAV]
   refine hK _ _ _ ?_; clear hK K
   refine awp_cnd (fun hb => ?_) (fun hb => ?_)
   ·skip
    refine awp_drw1 rfl zs [0, 4, 5, 7, 8, 9] [.m, .q, .q, .q, .m, .q, .q, .q, .q, .q, .w [], .m, .q, .q, .q, .q] (by kernel_rfl) (fun _ _ _ _ _ h => h) fun K hK => ?_
    try simp only [go_sem, seval, rx, rr, rl, flowAV]
    refine callK_useK (args' := [.loc Y.kf 0 0 0 [], lentAV x0]) Tryz.func93 rfl rfl rfl (f_Push Y.kw Y.kt Y.ko nl hk2 x.w x.st x0 Y.kf Hl nl hstr hx0 (fun k hk9 => by have := hx0k k hk9; omega) hef o1 o2 o3 o4 o5) ?_ ?_
    rotate_left
    · intro p H' n' hp; obtain ⟨_, _, _, _, hx9, _⟩ := hp.2 h0; cases hx9
    intro r H2 n2 hP
    obtain ⟨ko2, lo2, hk3, xs, hr2, hko2, hlo2, hxe, hxo, hxm, hln, hn2, hkx2, hah3, hf2⟩ := hP.2 h0
    cases hr2
    have rx := (hf2 _ (by omega) hN.xw hN.xt hN.xo).trans rx
    have rc := (hf2 _ (by omega) (by omega) (by omega) (by omega)).trans rc
    have re9 := (hf2 _ (by omega) (by omega) (by omega) (by omega)).trans re9
    try simp only [go_sem, seval]
    refine hK _ _ _ ?_; clear hK K
    try simp only [go_sem, seval]
    refine hK2 _ _ _ ?_
    first | clear hK2 K2 | skip
    refine awp_drw rfl zs [0, 4, 5, 7, 8, 9, 10] [.q, .q, .m, .q, .q, .q, .m, .q, .q, .q, .q, .c, .q] (by kernel_rfl) (fun _ _ _ _ _ h => h) fun K hK => ?_
    try simp only [go_sem, seval, rx, rc, re9, flowAV]
    refine callQG_use Tryz.func95 rfl rfl rfl (fun _ n => (c_ref3_Pushable c.s x.last h.fit x.has x0.e _ _)) ?_
    try simp only [go_sem, seval, hpe, h0]
    refine hK _ _ _ ?_; clear hK K
    refine awp_seq_k fun K3 hK3 => ?_
    refine awp_reg zs [0, 4, 5, 8, 10, 73] fun K hK => ?_
    try simp only [go_sem, seval]
    repeat (first | (refine And.intro ?_ ?_; · first | exact ⟨rfl, by simp [AV.sz, AV.szs, AV.memOK]⟩ | exact fun _ => ⟨rfl, by simp [AV.sz, AV.szs, AV.memOK]⟩) | refine peel ?_)
    refine callK_use Tryz.func16 rfl rfl rfl ((c_law_num _ _ _)) ?_
    try simp only [go_sem, seval, re9, bne_self_eq_false, show (false == false) = true from rfl, forall_const, show (true = false) = False from eq_false (by decide), false_implies, and_true]
    repeat (first | (refine And.intro ?_ ?_; · first | exact ⟨rfl, by simp [AV.sz, AV.szs, AV.memOK]⟩ | exact fun _ => ⟨rfl, by simp [AV.sz, AV.szs, AV.memOK]⟩) | refine peel ?_)
    refine callG_true rfl ?_
    refine callK_useK (args' := [.loc (n + 2) 0 0 0 [], entsAV [x0.e]]) Tryz.func59 rfl rfl rfl (c_law_stands2 [x0.e] (by simp) hfs H2 n2 (n + 2) (by simp; omega) (hLd.frame fun k g1 g2 => hf2 k (by rw [hnl]; omega) (by omega) (by omega) (by omega))) ?_ ?_
    rotate_left
    · intro p H' n' h; cases h.1
    rintro r H3 n3 ⟨hr3, hn3, hf3⟩
    cases hr3
    have hf4 : ∀ k, k < n → k ≠ Y.kw → k ≠ Y.kt → k ≠ Y.ko → H3 k = H k := fun k g1 g2 g3 g4 => by rw [hf3 k (.inl (by omega)), hf2 k (by omega) g2 g3 g4, hfr k g1]
    have rx := (hf3 Y.kx (.inl (by omega))).trans rx
    have rc := (hf3 n (.inl (by omega))).trans rc
    have re9 := (hf3 (n + 1) (.inl (by omega))).trans re9
    have rI := (hf4 Y.kI hkI (Ne.symm hN.wI) (Ne.symm hN.tI) (Ne.symm hN.oI)).trans hoI
    have rO := (hf4 Y.kO hkO (Ne.symm hN.wO) (Ne.symm hN.tO) (Ne.symm hN.oO)).trans h.oO
    have hxo3 : H3 Y.ko = some (.arr xs.length 7 (xs.map lentAV)) := (hf3 Y.ko (.inl (by omega))).trans hxo
    have hxm3 : MineL H3 nl n3 xs := hxm.mono (fun k g1 g2 => hf3 k (.inr (by simp; omega))) (by omega)
    obtain ⟨⟨A', es', hri⟩, hsm, hrow⟩ := h.ri.push hk2 h.b hef hcl h0
    have hLL : LList H3 n3 ⟨Y.ko, xs.length, xs.map lentAV⟩ xs := ⟨by show Y.ko < n3; omega, hxo3, by simp, List.take_of_length_le (by simp), hxm3.ok⟩
    have hsm2 : ∀ y ∈ xs, smallE y.e := fun y hy => hsm _ (by rw [← hxe]; exact List.mem_map.2 ⟨y, hy, rfl⟩)
    have hxl : xs.length ≤ 5000000 := by have h9 := squashE_length c.s c.clock c.major c.low (x.I ++ [x0.e]); rw [hri.squash hk3 h.b, ← hxe] at h9; simp at h9; omega
    have hOl : x.O.length ≤ 500000000 := by have h9 := squashE_length c.s c.clock c.major c.low x.I; rw [h.ri.squash hk2 h.b] at h9; simp at h9; omega
    have hlO9 : x.O.length + (List.map entAV (List.map (fun x => x.e) xs)).length = (x.O ++ List.map (fun x => x.e) xs).length := by simp
    have hls9 : List.take x.O.length (List.map entAV x.O) ++ List.map entAV (List.map (fun x => x.e) xs) = List.map entAV (x.O ++ List.map (fun x => x.e) xs) := by rw [List.take_of_length_le (by simp), List.map_append]
    have hcl9 : Ret Tryz.prog 13 [.osl Y.ko xs.length 0 xs.length] H3 n3 (entsAV (xs.map (·.e))) H3 n3 := l_ref3_CloneAll ⟨Y.ko, xs.length, xs.map lentAV⟩ xs (by omega) (fun y hy => small_fits (hsm2 y hy)) H3 n3 hLL
    try simp only [go_sem, seval, forall_const]
    repeat (first | (refine And.intro ?_ ?_; · first | exact ⟨rfl, by simp [AV.sz, AV.szs, AV.memOK]⟩ | exact fun _ => ⟨rfl, by simp [AV.sz, AV.szs, AV.memOK]⟩) | refine peel ?_)
    refine hK _ _ _ ?_; clear hK K
    refine awp_cnd (fun hb => ?_) (fun hb => ?_)
    ·skip
     exact absurd hb (by simp)
     --dead
    ·skip
     refine awp_skip ?_
     try simp only [go_sem, seval]
     refine hK3 _ _ _ ?_
     first | clear hK3 K3 | skip
     refine awp_seq_k fun K4 hK4 => ?_
     refine awp_reg zs [0, 4, 5, 8, 75] fun K hK => ?_
     try simp only [go_sem, seval, bne_self_eq_false]
     refine hK _ _ _ ?_; clear hK K
     refine awp_cnd (fun hb => ?_) (fun hb => ?_)
     ·skip
      exact absurd hb (by simp)
      --dead
     ·skip
      refine awp_skip ?_
      try simp only [go_sem, seval]
      refine hK4 _ _ _ ?_
      first | clear hK4 K4 | skip
      refine awp_seq_j (fun T' H' n' => ∃ vO', T' = tl [(0, .loc Y.kx 0 0 0 []), (5, .loc (n + 1) 0 0 0 []), (8, .osl Y.ko xs.length 0 xs.length)] ∧ n' = n3 ∧ H' Y.kO = some (.arr vO' 7 ((x.O ++ xs.map (·.e)).map entAV)) ∧ H' Y.kx = some (.arr 0 17 [flowAV (.loc Y.kf 0 0 0 []) .nilp (.osl Y.kI x.vI 0 x.I.length) (.osl Y.kO vO' 0 (x.O ++ xs.map (·.e)).length) x.last x.has (dropAV x.D)]) ∧ ∀ k, k ≠ Y.kO → k ≠ Y.kx → H' k = H3 k) ?_ ?_
      ·skip
       refine awp_drw rfl zs [0, 4, 5, 8, 101] [.m, .q, .q, .q, .m, .m, .q, .q, .q, .q, .q, .q, .c, .q, .q, .m, .m, .q, .q, .q, .q, .q, .q] (by kernel_rfl) (fun _ _ _ _ _ h => h) fun K hK => ?_
       try simp only [go_sem, seval, rx, re9, flowAV]
       refine callQG_use Tryz.func60 rfl rfl rfl (fun _ n => (c_ref3_Alike x.last.row x0.e.row _ _)) ?_
       try simp only [go_sem, seval, rx, flowAV]
       repeat refine peel ?_
       refine hK _ _ _ ?_; clear hK K
       refine awp_cnd (fun hb => ?_) (fun hb => ?_)
       ·skip
        have hh : x.has = true := by cases h9 : x.has with | true => rfl | false => rw [h9] at hb; simp at hb
        have hr : x.last.row ≠ x0.e.row := by intro h9; rw [hh, h9] at hb; simp at hb
        have hbg := hrow hh hr
        rw [← hxe, squash_ref] at hbg
        refine awp_drw rfl zs [0, 5, 8, 11] [.m, .q, .m, .q, .q, .q, .w [], .q] (by kernel_rfl) (fun _ _ _ _ _ h => h) fun K hK => ?_
        try simp only [go_sem, seval, rx, rc, flowAV]
        refine callK_use Tryz.func89 rfl rfl rfl ((c_law_want_f Y.kx _ _ _ _ x.last x.has c Y.kI x.vI x.I (by omega) h.ri.tk.sizes H3 n3 (by omega) (by omega) rx rI)) ?_
        try simp only [go_sem, seval]
        refine hK _ _ _ ?_; clear hK K
        refine awp_drw rfl zs [0, 5, 8, 11] [.m, .m, .q, .q, .q, .m, .w [2, 3, 4], .w [], .q, .q, .w []] (by kernel_rfl) (fun _ _ _ _ _ h => h) fun K hK => ?_
        try simp only [go_sem, seval, rx, flowAV]
        repeat (first | (refine And.intro ?_ ?_; · first | exact ⟨by first | omega | (simp; done), .inr trivial, by first | omega | (simp; omega), by first | omega | (simp; omega)⟩) | refine peel ?_)
        refine callK_use Tryz.func13 rfl rfl rfl (hcl9) ?_
        try simp only [go_sem, seval, rx, rO, flowAV, qxO, hlO9, hls9]
        repeat (first | (refine And.intro ?_ ?_; · first | exact ⟨by first | omega | (simp; done), .inr trivial, by first | omega | (simp; omega), by first | omega | (simp; omega)⟩) | refine peel ?_)
        refine hK _ _ _ ?_; clear hK K
        refine awp_reg zs [0, 5, 8, 125] fun K hK => ?_
        try simp only [go_sem, seval, flowAV]
        refine callK_use Tryz.func96 rfl rfl rfl ((c_law_begins (rSquashE c.s c.clock c.major c.low x.I).1 (x.O ++ List.map (fun x => x.e) xs) (by have h9 := squashE_length c.s c.clock c.major c.low x.I; rw [squash_ref] at h9; omega) Y.kO (x.vO + 1) _ _ (by rw [Heap.put_ne _ _ (Ne.symm hN.xO), Heap.put_same]) hbg)) ?_
        try simp only [go_sem, seval]
        refine hK _ _ _ ?_; clear hK K
        refine awp_cnd (fun hb => ?_) (fun hb => ?_)
        ·skip
         exact absurd hb (by simp)
         --dead
        ·skip
         refine awp_sel [0, 5, 8] ?_
         refine awp_skip ?_
         try simp only [go_sem, seval, flowAV, qOx]
         exact ⟨x.vO + 1, rfl, rfl, fun k h1 h2 => by rw [if_neg h2, if_neg h1]⟩
       ·skip
        refine awp_drw1 rfl zs [0, 5, 8] [.m, .m, .q, .q, .q, .m, .w [2, 3, 4], .w [], .q, .q, .w []] (by kernel_rfl) (fun _ _ _ _ _ h => h) fun K hK => ?_
        try simp only [go_sem, seval, rx, flowAV]
        repeat (first | (refine And.intro ?_ ?_; · first | exact ⟨by first | omega | (simp; done), .inr trivial, by first | omega | (simp; omega), by first | omega | (simp; omega)⟩) | refine peel ?_)
        refine callK_use Tryz.func13 rfl rfl rfl (hcl9) ?_
        try simp only [go_sem, seval, rx, rO, flowAV, qxO, hlO9, hls9]
        repeat (first | (refine And.intro ?_ ?_; · first | exact ⟨by first | omega | (simp; done), .inr trivial, by first | omega | (simp; omega), by first | omega | (simp; omega)⟩) | refine peel ?_)
        refine hK _ _ _ ?_; clear hK K
        try simp only [go_sem, seval, flowAV, qOx]
        exact ⟨x.vO + 1, rfl, rfl, fun k h1 h2 => by rw [if_neg h2, if_neg h1]⟩
      rintro T1 H4 n4 ⟨vO', rfl, rfl, rO, rx, hf5⟩
      have re9 := (hf5 (n + 1) (by omega) (by omega)).trans re9
      have rI := (hf5 Y.kI hN.IO (Ne.symm hN.xI)).trans rI
      refine awp_drw rfl zs [0, 5, 8] [.m, .m, .q, .q, .q, .q, .c, .q, .w [], .q, .q, .w []] (by kernel_rfl) (fun _ _ _ _ _ h => h) fun K hK => ?_
      try simp only [go_sem, seval, rx, re9, rI, flowAV, qxI]
      repeat (first | (refine And.intro ?_ ?_; · first | exact ⟨rfl, by simp [AV.sz, AV.szs, AV.memOK]⟩ | exact ⟨by first | omega | (simp; done), .inr trivial, by first | omega | (simp; omega), by first | omega | (simp; omega)⟩) | refine peel ?_)
      refine callQG_use Tryz.func34 rfl rfl rfl (fun _ n => (c_ref3_Clone x0.e hef _ _)) ?_
      try simp only [go_sem, seval]
      repeat (first | (refine And.intro ?_ ?_; · first | exact ⟨rfl, by simp [AV.sz, AV.szs, AV.memOK]⟩ | exact ⟨by first | omega | (simp; done), .inr trivial, by first | omega | (simp; omega), by first | omega | (simp; omega)⟩) | refine peel ?_)
      refine hK _ _ _ ?_; clear hK K
      refine awp_reg zs [0, 8] fun K hK => ?_
      try simp only [go_sem, seval, re9, q9x, q9I]
      refine callK_use Tryz.func34 rfl rfl rfl ((c_ref3_Clone x0.e hef _ _)) ?_
      try simp only [go_sem, seval]
      refine hK _ _ _ ?_; clear hK K
      refine awp_reg zs [8] fun K hK => ?_
      try simp only [go_sem, seval]
      refine hK _ _ _ ?_; clear hK K
      refine awp_reg zs [6] fun K hK => ?_
      try simp only [go_sem, seval]
      have hkp : ∀ k o o', k ≠ Y.kI → k ≠ Y.kx → k ≠ Y.kO → ((H4.put Y.kI o).put Y.kx o') k = H3 k := fun k o o' g1 g2 g3 => (Heap.put_ne _ _ g2).trans ((Heap.put_ne _ _ g1).trans (hf5 k g3 g2))
      refine callK_useK (args' := [.osl Y.ko xs.length 0 xs.length]) Tryz.func88 rfl rfl rfl (c_law_spoil Y.ko xs.length nl xs (by omega) hsm2 _ n4 (by omega) ((hkp Y.ko _ _ hN.oI (Ne.symm hN.xo) hN.oO).trans hxo3) (hxm3.mono (fun k g1 g2 => hkp k _ _ (by omega) (by omega) (by omega)) (Nat.le_refl _)) (fun hin => by have := (hxm3.in' hin).1; omega)) ?_ ?_
      rotate_left
      · intro p H' n' h; cases h.1
      rintro r H5 n5 ⟨hr5, hn5, hf6⟩
      cases hr5
      try simp only [go_sem, seval]
      refine hK _ _ _ ?_; clear hK K
      refine awp_ret ?_
      try simp only [go_sem, seval]
      have hni : ∀ k, k < nl → k ∉ xs.flatMap LEnt.ks := fun k g1 g2 => by have := (hxm3.in' g2).1; omega
      have hgo : ∀ k, k < n → k ≠ Y.ko → k ≠ Y.kI → k ≠ Y.kx → k ≠ Y.kO → H5 k = H3 k := fun k g0 g1 g2 g3 g4 => (hf6 k (by omega) g1 (hni k (by omega))).trans (hkp k _ _ g2 g3 g4)
      have hN2 : FNe { Y with ko := ko2 } := ⟨hN.xf, hN.xw, hN.xt, by show Y.kx ≠ ko2; omega, hN.xI, hN.xO, hN.fw, hN.ft, by show Y.kf ≠ ko2; omega, hN.fI, hN.fO, hN.wt, by show Y.kw ≠ ko2; omega, hN.wI, hN.wO, by show Y.kt ≠ ko2; omega, hN.tI, hN.tO, by show ko2 ≠ Y.kI; omega, by show ko2 ≠ Y.kO; omega, hN.IO⟩
      have hko3 : ko2 < n2 := hah3.keys ko2 (.inr rfl)
      refine ⟨rfl, by omega, ⟨{ Y with ko := ko2 }, ⟨x.i + 2, pushW x.w x0.e, { pushF Y.kw Y.kt Y.ko nl hk2 x.w x.st x0.e with out := [] }, A', x.I ++ [x0.e], x.O ++ xs.map (·.e), es', x0.e, true, x.vI + 1, vO', x.D⟩, ?_, rfl, Nat.le_refl _, by simp, fun k hk9 => ?_⟩, fun k g1 g2 => ?_⟩
      · refine ⟨h.b, by rw [hxe]; exact hri, hef, fun k hk9 => ?_, hN2.nd, ?_, ?_, ?_, ?_, ?_⟩
        · simp only [FKeys.all, List.mem_cons, List.not_mem_nil, or_false] at hk9
          rcases hk9 with e1 | e1 | e1 | e1 | e1 | e1 | e1 <;> omega
        · show H5 Y.kx = _
          rw [hf6 Y.kx (by omega) hN.xo (hni _ (by omega)), Heap.put_same]
          simp [flowAV, entAV, bys]
        · show H5 Y.kI = _
          rw [hf6 Y.kI (by omega) (Ne.symm hN.oI) (hni _ (by omega)), Heap.put_ne _ _ (Ne.symm hN.xI), Heap.put_same, List.take_of_length_le (by simp)]
          simp [entAV, bys]
        · show H5 Y.kO = _
          rw [hf6 Y.kO (by omega) (Ne.symm hN.oO) (hni _ (by omega)), Heap.put_ne _ _ (Ne.symm hN.xO), Heap.put_ne _ _ (Ne.symm hN.IO)]
          exact rO
        · show H5 Y.kf = _
          rw [hgo _ hkf hN.fo hN.fI (Ne.symm hN.xf) hN.fO, hf4 _ hkf hN.fw hN.ft hN.fo]
          exact h.of
        · refine ⟨_, kah_frame hah3 rfl (by omega) ?_ ?_ ?_⟩
          · rw [hgo _ hkw hN.wo hN.wI (Ne.symm hN.xw) hN.wO]; exact hf3 _ (.inl (by omega))
          · rw [hgo _ hkt hN.to hN.tI (Ne.symm hN.xt) hN.tO]; exact hf3 _ (.inl (by omega))
          · show H5 ko2 = H2 ko2
            rw [hf6 ko2 (by omega) (by omega) hkx2, hkp _ _ _ (by omega) (by omega) (by omega)]
            exact hf3 _ (.inr (by simp; omega))
      · simp only [FKeys.all, List.mem_cons, List.not_mem_nil, or_false] at hk9 ⊢
        rcases hk9 with e1 | e1 | e1 | e1 | e1 | e1 | e1
        · exact .inl (by simp [e1])
        · exact .inl (by simp [e1])
        · exact .inl (by simp [e1])
        · exact .inl (by simp [e1])
        · exact .inr (by omega)
        · exact .inl (by simp [e1])
        · exact .inl (by simp [e1])
      · simp only [FKeys.all, List.mem_cons, List.not_mem_nil, or_false, not_or] at g2
        obtain ⟨d1, d2, d3, d4, d5, d6, d7⟩ := g2
        rw [hgo k g1 d5 d6 d1 d7, hf4 k g1 d3 d4 d5]
   ·skip
    exact absurd hb (by simp)
    --dead
theorem g_push (c : Cas) (Y : FKeys) (x : GSt) (e : Ent) (he : e.row.length ≤ 70000000000000 ∧ e.qual.length ≤ 70000000000000 ∧ e.value.length ≤ 70000000000000) (H : Heap) (n : Nat) (h : GFl c Y x H n) (hi : x.i ≤ 1000000000) (hI : x.I.length ≤ 2000000) :
    ACalls Tryz.prog 58 [.loc Y.kx 0 0 0 [], casAV c, entAV e] H n (GStep c Y x 2 1 H n) := by
  cases hcl : clashB x.I e with
  | true => exact g_push_clash c Y x e H n h (by omega) hcl
  | false =>
    by_cases h0 : (pushR x.w e).2 = 0
    · exact g_push_ok c Y x e he H n h hi hI hcl h0
    · exact g_push_err c Y x e he H n h hi (by omega) hcl h0
end Go.Proofs.YtijhkfhflpmajaaGreat
namespace Go.Proofs.YtijhkfhflpmajaaGreat
open Go Go.Sx Go.Rt Go.Proofs
set_option maxHeartbeats 1600000 in
theorem g_end (c : Cas) (Y : FKeys) (x : GSt) (H : Heap) (n : Nat) (h : GFl c Y x H n) (hi : x.i ≤ 1000000000) (hI : x.I.length ≤ 2000000) :
    ACalls Tryz.prog 57 [.loc Y.kx 0 0 0 [], casAV c] H n (GStep c Y x 1 0 H n) := by
  obtain ⟨lo, hk, hah⟩ := h.ah
  have hN := FKeys.ne h.nd
  have hkx := h.lt Y.kx (by simp [FKeys.all])
  have hkf := h.lt Y.kf (by simp [FKeys.all])
  have hkw := h.lt Y.kw (by simp [FKeys.all])
  have hkt := h.lt Y.kt (by simp [FKeys.all])
  have hko := h.lt Y.ko (by simp [FKeys.all])
  have hkI := h.lt Y.kI (by simp [FKeys.all])
  have hkO := h.lt Y.kO (by simp [FKeys.all])
  have hox := h.ox
  have hoI := h.oI
  have hfr : ∀ k, k < n → ∀ o, (H.put n o) k = H k := fun k hk o => Heap.put_ne _ _ (by omega)
  have rx := fun o => (hfr Y.kx hkx o).trans hox
  have rc := fun o => Heap.put_same H n o
  have rI : (0 : Nat) = 0 := rfl
  have q5x : (0 : Nat) = 0 := rfl
  have qx5 : (0 : Nat) = 0 := rfl
  have q5n : (0 : Nat) = 0 := rfl
  generalize hdd : dropE c.s c.clock c.major c.low x.I = dd
  have hask := h.ri.asked h.b
  have rO : (0 : Nat) = 0 := rfl
  have qxO : (Y.kx = Y.kO) = False := eq_false hN.xO
  have qxI : (Y.kx = Y.kI) = False := eq_false hN.xI
  have qxn : (Y.kx = n) = False := by simp; omega
  have qOx : (Y.kO = Y.kx) = False := eq_false (Ne.symm hN.xO)
  have qIx : (Y.kI = Y.kx) = False := eq_false (Ne.symm hN.xI)
  refine acalls_of_awp Tryz.func57 rfl Tryz.ntmps57 (congrArg Array.toList Tryz.results57) (by simp) ?_
  simp only [go_sem]
  refine awp_reg zs [0, 3] fun K hK => ?_
  try simp only [go_sem, seval, casAV]
  refine hK _ _ _ ?_; clear hK K
  refine awp_reg zs [0, 3] fun K hK => ?_
  try simp only [go_sem, seval]
  refine hK _ _ _ ?_; clear hK K
  refine awp_seq_k fun K1 hK1 => ?_
  refine awp_reg zs [0, 3, 13] fun K hK => ?_
  try simp only [go_sem, seval, rx, flowAV]
  refine hK _ _ _ ?_; clear hK K
  refine awp_cnd (fun hb => ?_) (fun hb => ?_)
  ·skip
   refine awp_reg1 zs [0, 3, 5] fun K hK => ?_
   try simp only [go_sem, seval, rx, flowAV]
   generalize hHl : H.put n _ = Hl
   have hfl : ∀ k, k < n → Hl k = H k := fun k hk9 => by rw [← hHl]; exact hfr k hk9 _
   have rcl : Hl n = some (.arr 0 6 [casAV c]) := by rw [← hHl]; exact Heap.put_same _ _ _
   obtain ⟨hk2, hah2⟩ := kah_frame (H' := Hl) (n' := n + 1) hah h.ri.out (by omega) (hfl _ hkw) (hfl _ hkt) (hfl _ hko)
   have hstr : StrOK (keptTk Y.kw Y.kt Y.ko (n + 1) hk2) Hl (n + 1) Y.kf x.w x.st := ⟨hah2, (hfl _ hkf).trans h.of, by omega, hN.fw, fun hk9 => by rcases hk9 with e9 | e9; exact hN.ft e9; exact hN.fo e9⟩
   obtain ⟨o1, _, _, o4, _⟩ := h.ri.oks hk2 h.b (by omega) noE
   refine callK_useK (args' := [.loc Y.kf 0 0 0 []]) Tryz.func86 rfl rfl rfl (f_End Y.kw Y.kt Y.ko (n + 1) hk2 x.w x.st Y.kf Hl (n + 1) hstr o1 o4) ?_ ?_
   rotate_left
   · intro p H' n' hp; obtain ⟨_, _, _, _, hx9, _⟩ := hp; cases hx9
   rintro r H3 n3 ⟨ko2, lo2, hk3, xs, hr2, hko2, hlo2, hxe, hxo3, hxm3, hln, hn2, hkx2, hah3, hf2⟩
   cases hr2
   have hf4 : ∀ k, k < n → k ≠ Y.kw → k ≠ Y.kt → k ≠ Y.ko → H3 k = H k := fun k g1 g2 g3 g4 => (hf2 k (by omega) g2 g3 g4).trans (hfl k g1)
   have rx := (hf4 Y.kx hkx hN.xw hN.xt hN.xo).trans hox
   have rc := (hf2 n (by omega) (by omega) (by omega) (by omega)).trans rcl
   simp only [casAV] at rc
   have rI := (hf4 Y.kI hkI (Ne.symm hN.wI) (Ne.symm hN.tI) (Ne.symm hN.oI)).trans hoI
   have rO := (hf4 Y.kO hkO (Ne.symm hN.wO) (Ne.symm hN.tO) (Ne.symm hN.oO)).trans h.oO
   obtain ⟨hri, hsm⟩ := h.ri.done hk2 h.b noE
   have hrd := h.ri.squash hk2 h.b
   rw [← hxe] at hrd hsm
   have hLL : LList H3 n3 ⟨Y.ko, xs.length, xs.map lentAV⟩ xs := ⟨by show Y.ko < n3; omega, hxo3, by simp, List.take_of_length_le (by simp), hxm3.ok⟩
   have hsm2 : ∀ y ∈ xs, smallE y.e := fun y hy => hsm _ (List.mem_map.2 ⟨y, hy, rfl⟩)
   have hll : x.O.length + xs.length ≤ 2 * x.I.length + 1 := by have h9 := squashE_length c.s c.clock c.major c.low x.I; rw [hrd] at h9; simpa using h9
   have hlO9 : x.O.length + (List.map entAV (List.map (fun x => x.e) xs)).length = (x.O ++ List.map (fun x => x.e) xs).length := by simp
   have hls9 : List.take x.O.length (List.map entAV x.O) ++ List.map entAV (List.map (fun x => x.e) xs) = List.map entAV (x.O ++ List.map (fun x => x.e) xs) := by rw [List.take_of_length_le (by simp), List.map_append]
   have hcl9 : Ret Tryz.prog 13 [.osl Y.ko xs.length 0 xs.length] H3 n3 (entsAV (xs.map (·.e))) H3 n3 := l_ref3_CloneAll ⟨Y.ko, xs.length, xs.map lentAV⟩ xs (by omega) (fun y hy => small_fits (hsm2 y hy)) H3 n3 hLL
   try simp only [go_sem, seval]
   refine hK _ _ _ ?_; clear hK K
   try simp only [go_sem, seval]
   refine hK1 _ _ _ ?_
   first | clear hK1 K1 | skip
   refine awp_drw rfl zs [0, 3, 5] [.m, .m, .q, .q, .q, .m, .w [2, 3, 4], .w [], .q, .q, .w []] (by kernel_rfl) (fun _ _ _ _ _ h => h) fun K hK => ?_
   try simp only [go_sem, seval, rx, flowAV]
   repeat (first | (refine And.intro ?_ ?_; · first | exact ⟨by first | omega | (simp; done), .inr trivial, by first | omega | (simp; omega), by first | omega | (simp; omega)⟩) | refine peel ?_)
   refine callK_use Tryz.func13 rfl rfl rfl (hcl9) ?_
   try simp only [go_sem, seval, rx, rO, flowAV, qxO, hlO9, hls9]
   repeat (first | (refine And.intro ?_ ?_; · first | exact ⟨by first | omega | (simp; done), .inr trivial, by first | omega | (simp; omega), by first | omega | (simp; omega)⟩) | refine peel ?_)
   refine hK _ _ _ ?_; clear hK K
   refine awp_reg zs [0, 3, 6] fun K hK => ?_
   try simp only [go_sem, seval]
   have hkp : ∀ k o o', k ≠ Y.kx → k ≠ Y.kO → ((H3.put Y.kO o).put Y.kx o') k = H3 k := fun k o o' g1 g2 => (Heap.put_ne _ _ g1).trans (Heap.put_ne _ _ g2)
   refine callK_useK (args' := [.osl Y.ko xs.length 0 xs.length]) Tryz.func88 rfl rfl rfl (c_law_spoil Y.ko xs.length (n + 1) xs (by omega) hsm2 _ n3 (by omega) ((hkp Y.ko _ _ (Ne.symm hN.xo) hN.oO).trans hxo3) (hxm3.mono (fun k g1 g2 => hkp k _ _ (by omega) (by omega)) (Nat.le_refl _)) (fun hin => by have := (hxm3.in' hin).1; omega)) ?_ ?_
   rotate_left
   · intro p H' n' h; cases h.1
   rintro r H5 n5 ⟨hr5, hn5, hf6⟩
   cases hr5
   have hni : ∀ k, k < n + 1 → k ∉ xs.flatMap LEnt.ks := fun k g1 g2 => by have := (hxm3.in' g2).1; omega
   have hgo : ∀ k, k < n + 1 → k ≠ Y.ko → k ≠ Y.kx → k ≠ Y.kO → H5 k = H3 k := fun k g0 g1 g3 g4 => (hf6 k (by omega) g1 (hni k (by omega))).trans (hkp k _ _ g3 g4)
   have rx := (hf6 Y.kx (by omega) hN.xo (hni _ (by omega))).trans (Heap.put_same _ _ _)
   have rO := ((hf6 Y.kO (by omega) (Ne.symm hN.oO) (hni _ (by omega))).trans (Heap.put_ne _ _ (Ne.symm hN.xO))).trans (Heap.put_same _ _ _)
   have rc := (hgo n (by omega) (by omega) (by omega) (by omega)).trans rc
   have rI := (hgo Y.kI (by omega) (Ne.symm hN.oI) (Ne.symm hN.xI) hN.IO).trans rI
   have hsame : ∀ m, Ret Tryz.prog 17 [.osl Y.kO (x.vO + 1) 0 (x.O ++ List.map (fun x => x.e) xs).length, entsAV (rSquashE c.s c.clock c.major c.low x.I).1] H5 m (.bool true) H5 m := fun m => by
     have h9 := c_ref3_SameAll (x.O ++ List.map (fun x => x.e) xs) (rSquashE c.s c.clock c.major c.low x.I).1 (by simp; omega) (fun _ => none) 0
     rw [show decide (x.O ++ List.map (fun x => x.e) xs = (rSquashE c.s c.clock c.major c.low x.I).1) = true by rw [← squash_ref, hrd]; simp] at h9
     exact Ret.lend trivial (.cons (ents_frz0 rO) (.cons (.kl (kls_ents _ 0)) .nil)) h9
   have q5x : (Y.kx = n5) = False := by simp; omega
   have qx5 : (n5 = Y.kx) = False := by simp; omega
   have q5n : (n = n5) = False := by simp; omega
   obtain ⟨_, _, ⟨_, hkt9, _⟩⟩ := (⟨hah3.walk, trivial, hah3.tk⟩ : _ ∧ True ∧ _)
   have hkt9 := ((hgo Y.kt (by omega) hN.to (Ne.symm hN.xt) hN.tO)).trans hkt9
   have hkf9 := ((hgo Y.kf (by omega) hN.fo (Ne.symm hN.xf) hN.fO).trans (hf4 _ hkf hN.fw hN.ft hN.fo)).trans h.of
   have hdr := h.ri.drop hk2 h.b
   rw [hdd] at hdr hri
   obtain ⟨z1, z2, z3, z4, z5, z6⟩ := hri.inv
   have y1 : x.D.o + dd.o = _ := (congrArg Drp.o hdr).symm
   have y2 : x.D.m + dd.m = _ := (congrArg Drp.m hdr).symm
   have y3 : x.D.x + dd.x = _ := (congrArg Drp.x hdr).symm
   have y4 : x.D.a + dd.a = _ := (congrArg Drp.a hdr).symm
   have y5 : x.D.k + dd.k = _ := (congrArg Drp.k hdr).symm
   simp only [KSt.drp] at y1 y2 y3 y4 y5 z1 z2 z3 z4 z5 z6
   have hw1 : IntKind.i64.wrap (x.D.o + dd.o) = x.D.o + dd.o := w64 (by omega) (by omega)
   have hw2 : IntKind.i64.wrap (x.D.m + dd.m) = x.D.m + dd.m := w64 (by omega) (by omega)
   have hw3 : IntKind.i64.wrap (x.D.x + dd.x) = x.D.x + dd.x := w64 (by omega) (by omega)
   have hw4 : IntKind.i64.wrap (x.D.a + dd.a) = x.D.a + dd.a := w64 (by omega) (by omega)
   have hw5 : IntKind.i64.wrap (x.D.k + dd.k) = x.D.k + dd.k := w64 (by omega) (by omega)
   have hI9 : ∀ o, (H5.put n5 o) Y.kI = some (.arr x.vI 7 (x.I.map entAV)) := fun o => (Heap.put_ne _ _ (by omega)).trans rI
   have hDr : ∀ o m, Ret Tryz.prog 90 [schAV c.s, .int .i64 c.clock, .bool c.major, .int .i64 c.low, .osl Y.kI x.vI 0 x.I.length] (H5.put n5 o) m (dropAV dd) (H5.put n5 o) m := fun o m => by
     rw [← hdd]; exact Ret.live (hI9 o) fun h9 => p_ref3_Dropped c.s c.clock c.low c.major Y.kI x.vI x.I (by omega) h.ri.tk.sizes hask _ m h9 (hI9 o)
   have hDr0 : ∀ m, Ret Tryz.prog 90 [schAV c.s, .int .i64 c.clock, .bool c.major, .int .i64 c.low, .osl Y.kI x.vI 0 x.I.length] H5 m (dropAV dd) H5 m := fun m => by
     rw [← hdd]; exact Ret.live rI fun h9 => p_ref3_Dropped c.s c.clock c.low c.major Y.kI x.vI x.I (by omega) h.ri.tk.sizes hask _ m h9 rI
   have hDp : ∀ (Hx : Heap) (m : Nat), (∀ k, k < n5 → k ≠ Y.kx → Hx k = H5 k) → Ret Tryz.prog 91 [.loc Y.kf 0 0 0 []] Hx m (dropAV (plusD x.D dd)) Hx m := fun Hx m hx9 => by
     have hA := (hx9 Y.kf (by omega) (Ne.symm hN.xf)).trans hkf9
     have hB := (hx9 Y.kt (by omega) (Ne.symm hN.xt)).trans hkt9
     exact Ret.live hA fun g1 => Ret.live hB fun g2 => c_retain_Dropped2 Y.kw Y.kt ko2 Y.kf _ (plusD x.D dd) (by exact hdr) Hx m g2 hA hB g1
   try simp only [go_sem, seval]
   refine hK _ _ _ ?_; clear hK K
   refine awp_drw rfl zs [0, 3, 7] [.m, .m, .m, .q, .q, .q, .m, .q, .m, .q, .q, .q, .c, .c, .q, .q] (by kernel_rfl) (fun _ _ _ _ _ h => h) fun K hK => ?_
   try simp only [go_sem, seval, rx, rc, show (true == true) = true from rfl, forall_const]
   refine callQG_use Tryz.func89 rfl rfl rfl (fun _ n => (Ret.live rx fun h8 => Ret.live rI fun h9 => c_law_want_f Y.kx _ _ _ _ x.last x.has c Y.kI x.vI x.I (by omega) h.ri.tk.sizes H5 _ h8 h9 rx rI)) ?_
   try simp only [go_sem, seval]
   refine callQG_use Tryz.func17 rfl rfl rfl (fun _ n => (hsame _)) ?_
   try simp only [go_sem, seval, forall_const]
   refine hK _ _ _ ?_; clear hK K
   refine awp_seq_k fun K2 hK2 => ?_
   refine awp_reg zs [0, 3, 7, 55] fun K hK => ?_
   try simp only [go_sem, seval, rx]
   refine hK _ _ _ ?_; clear hK K
   refine awp_cnd (fun hb => ?_) (fun hb => ?_)
   ·skip
    refine awp_drw rfl zs [0, 7, 8] [.q, .q, .q, .q, .q, .q, .q, .q, .m, .q, .q, .q, .c, .w [0, 1, 2, 3, 4, 5, 6, 7, 9, 10, 11, 12], .w []] (by kernel_rfl) (fun _ _ _ _ _ h => h) fun K hK => ?_
    try simp only [go_sem, seval, q5x, q5n, rx, rc]
    repeat (first | (refine And.intro ?_ ?_; · first | (intro d9 hd9; cases hd9; exact fun n9 => callK_use Tryz.func90 rfl rfl rfl (hDr _ n9) ⟨by rfl, rfl, rfl⟩) | exact ⟨rfl, rfl, rfl⟩) | refine peel ?_)
    refine callQG_use Tryz.func90 rfl rfl rfl (fun _ n => (hDr0 _)) ?_
    repeat (first | (refine And.intro ?_ ?_; · first | (intro d9 hd9; cases hd9; exact fun n9 => callK_use Tryz.func90 rfl rfl rfl (hDr _ n9) ⟨by rfl, rfl, rfl⟩) | exact ⟨rfl, rfl, rfl⟩) | refine peel ?_)
    refine hK _ _ _ ?_; clear hK K
    refine awp_drw rfl zs [0, 7, 8] [.m, .m, .q, .q, .q, .q, .q, .q, .q, .q, .q, .q, .w []] (by kernel_rfl) (fun _ _ _ _ _ h => h) fun K hK => ?_
    try simp only [go_sem, seval, q5x, rx, hw1, dropAV]
    refine hK _ _ _ ?_; clear hK K
    refine awp_drw rfl zs [0, 7, 8] [.m, .m, .q, .q, .q, .q, .q, .q, .q, .q, .q, .q, .w []] (by kernel_rfl) (fun _ _ _ _ _ h => h) fun K hK => ?_
    try simp only [go_sem, seval, qx5, hw2]
    refine hK _ _ _ ?_; clear hK K
    refine awp_drw rfl zs [0, 7, 8] [.m, .m, .q, .q, .q, .q, .q, .q, .q, .q, .q, .q, .w []] (by kernel_rfl) (fun _ _ _ _ _ h => h) fun K hK => ?_
    try simp only [go_sem, seval, qx5, hw3]
    refine hK _ _ _ ?_; clear hK K
    refine awp_drw rfl zs [0, 7, 8] [.m, .m, .q, .q, .q, .q, .q, .q, .q, .q, .q, .q, .w []] (by kernel_rfl) (fun _ _ _ _ _ h => h) fun K hK => ?_
    try simp only [go_sem, seval, qx5, hw4]
    refine hK _ _ _ ?_; clear hK K
    refine awp_drw rfl zs [0, 7] [.m, .m, .q, .q, .q, .q, .q, .q, .q, .q, .q, .q, .w []] (by kernel_rfl) (fun _ _ _ _ _ h => h) fun K hK => ?_
    try simp only [go_sem, seval, qx5, hw5]
    refine hK _ _ _ ?_; clear hK K
    refine awp_drw1 rfl zs [0, 7] [.m, .m, .m, .q, .q, .q, .c, .m, .q, .q, .q, .q, .q, .q] (by kernel_rfl) (fun _ _ _ _ _ h => h) fun K hK => ?_
    try simp only [go_sem, seval, beq_self_eq_true]
    repeat (first | (refine And.intro ?_ ?_; · first | exact fun _ => t_nums) | refine peel ?_)
    refine callQG_use Tryz.func91 rfl rfl rfl (fun _ n => (hDp _ _ (fun k h1 h2 => by (repeat rw [Heap.put_ne _ _ (by first | exact h2 | omega)])))) ?_
    try simp only [go_sem, seval, dropAV, plusD, beq_self_eq_true]
    repeat (first | (refine And.intro ?_ ?_; · first | exact fun _ => t_nums) | refine peel ?_)
    refine hK _ _ _ ?_; clear hK K
    try simp only [go_sem, seval]
    refine hK2 _ _ _ ?_
    first | clear hK2 K2 | skip
    refine awp_reg zs [0, 7] fun K hK => ?_
    try simp only [go_sem, seval]
    refine hK _ _ _ ?_; clear hK K
    refine awp_reg zs [0, 7] fun K hK => ?_
    try simp only [go_sem, seval]
    refine hK _ _ _ ?_; clear hK K
    refine awp_reg zs [0, 7] fun K hK => ?_
    try simp only [go_sem, seval]
    refine hK _ _ _ ?_; clear hK K
    refine awp_reg zs [7] fun K hK => ?_
    try simp only [go_sem, seval]
    refine hK _ _ _ ?_; clear hK K
    refine awp_wk_obj Y.kx (els' := [flowAV (.loc Y.kf 0 0 0 []) .nilp .nilsl .nilsl noE false (dropAV (plusD x.D dd))]) (Heap.put_same _ _ _) ⟨Wk.agg ⟨.refl _, .refl _, .refl _, .refl _, Wk.agg ⟨Wk.nilsl 1, .refl _, Wk.nilsl 1, .refl _, .refl _, .refl _, Wk.nilsl 1, trivial⟩, .refl _, .refl _, trivial⟩, trivial⟩ ?_
    refine awp_adopt_obj Y.kx 7 (els' := [flowAV (.loc Y.kf 0 0 0 []) .nilp (.osl (n5 + 1) 0 0 0) .nilsl noE false (dropAV (plusD x.D dd))]) (Heap.put_same _ _ _) ⟨Adp.agg ⟨.refl _ _, .refl _ _, Adp.nilsl _, .refl _ _, .refl _ _, .refl _ _, .refl _ _, trivial⟩, trivial⟩ ?_
    refine awp_adopt_obj Y.kx 7 (els' := [flowAV (.loc Y.kf 0 0 0 []) .nilp (.osl (n5 + 1) 0 0 0) (.osl (n5 + 1 + 1) 0 0 0) noE false (dropAV (plusD x.D dd))]) (Heap.put_same _ _ _) ⟨Adp.agg ⟨.refl _ _, .refl _ _, .refl _ _, Adp.nilsl _, .refl _ _, .refl _ _, .refl _ _, trivial⟩, trivial⟩ ?_
    refine awp_reg zs [4] fun K hK => ?_
    try simp only [go_sem, seval, flowAV]
    refine hK _ _ _ ?_; clear hK K
    refine awp_ret ?_
    try simp only [go_sem, seval]
    have g4 : ∀ k, k < n5 → k ≠ Y.kx → ∀ o0 o1 o2 o3 o4 o5, ((((((H5.put n5 o0).put Y.kx o1).put (n5 + 1) o2).put Y.kx o3).put (n5 + 1 + 1) o4).put Y.kx o5) k = H5 k := fun k h1 h2 o0 o1 o2 o3 o4 o5 => by
      rw [Heap.put_ne _ _ h2, Heap.put_ne _ _ (by omega), Heap.put_ne _ _ h2, Heap.put_ne _ _ (by omega), Heap.put_ne _ _ h2, Heap.put_ne _ _ (by omega)]
    have hko3 : ko2 < n3 := hah3.keys ko2 (.inr rfl)
    have hkx5 : Y.kx < (n5 + 1) := by omega
    have hN2 : FNe { Y with ko := ko2, kI := (n5 + 1), kO := n5 + 1 + 1 } := ⟨hN.xf, hN.xw, hN.xt, by show Y.kx ≠ ko2; omega, by show Y.kx ≠ (n5 + 1); omega, by show Y.kx ≠ n5 + 1 + 1; omega, hN.fw, hN.ft, by show Y.kf ≠ ko2; omega, by show Y.kf ≠ (n5 + 1); omega, by show Y.kf ≠ n5 + 1 + 1; omega, hN.wt, by show Y.kw ≠ ko2; omega, by show Y.kw ≠ (n5 + 1); omega, by show Y.kw ≠ n5 + 1 + 1; omega, by show Y.kt ≠ ko2; omega, by show Y.kt ≠ (n5 + 1); omega, by show Y.kt ≠ n5 + 1 + 1; omega, by show ko2 ≠ (n5 + 1); omega, by show ko2 ≠ n5 + 1 + 1; omega, by show (n5 + 1) ≠ n5 + 1 + 1; omega⟩
    refine ⟨rfl, by omega, ⟨{ Y with ko := ko2, kI := (n5 + 1), kO := n5 + 1 + 1 }, ⟨x.i + 1, freshW x.w, { (closeT (keptTk Y.kw Y.kt Y.ko (n + 1) hk2) x.w x.st : KSt) with out := [] }, [], [], [], [], noE, false, 0, 0, plusD x.D dd⟩, ?_, rfl, Nat.le_refl _, by simp, fun k hk9 => ?_⟩, fun k g1 g2 => ?_⟩
    · refine ⟨h.b, hri, ⟨by simp [noE], by simp [noE], by simp [noE]⟩, fun k hk9 => ?_, hN2.nd, ?_, ?_, ?_, ?_, ?_⟩
      · simp only [FKeys.all, List.mem_cons, List.not_mem_nil, or_false] at hk9
        rcases hk9 with e1 | e1 | e1 | e1 | e1 | e1 | e1 <;> omega
      · exact Heap.put_same _ _ _
      · have e1 : (n5 + 1) ≠ Y.kx := by omega
        have e2 : (n5 + 1) ≠ n5 + 1 + 1 := by omega
        exact (Heap.put_ne _ _ e1).trans ((Heap.put_ne _ _ e2).trans ((Heap.put_ne _ _ e1).trans (Heap.put_same _ _ _)))
      · have e1 : n5 + 1 + 1 ≠ Y.kx := by omega
        exact (Heap.put_ne _ _ e1).trans (Heap.put_same _ _ _)
      · rw [g4 Y.kf (by omega) (Ne.symm hN.xf), hgo _ (by omega) hN.fo (Ne.symm hN.xf) hN.fO, hf4 _ hkf hN.fw hN.ft hN.fo]
        exact h.of
      · refine ⟨_, kah_frame hah3 rfl (by omega) ?_ ?_ ?_⟩
        · rw [g4 Y.kw (by omega) (Ne.symm hN.xw), hgo _ (by omega) hN.wo (Ne.symm hN.xw) hN.wO]
        · rw [g4 Y.kt (by omega) (Ne.symm hN.xt), hgo _ (by omega) hN.to (Ne.symm hN.xt) hN.tO]
        · show _ = H3 ko2
          rw [g4 ko2 (by omega) (by omega), hf6 ko2 (by omega) (by omega) hkx2, hkp _ _ _ (by omega) (by omega)]
    · simp only [FKeys.all, List.mem_cons, List.not_mem_nil, or_false] at hk9 ⊢
      rcases hk9 with e1 | e1 | e1 | e1 | e1 | e1 | e1
      · exact .inl (by simp [e1])
      · exact .inl (by simp [e1])
      · exact .inl (by simp [e1])
      · exact .inl (by simp [e1])
      · exact .inr (by omega)
      · exact .inr (by omega)
      · exact .inr (by omega)
    · simp only [FKeys.all, List.mem_cons, List.not_mem_nil, or_false, not_or] at g2
      obtain ⟨d1, d2, d3, d4, d5, d6, d7⟩ := g2
      rw [g4 k (by omega) d1, hgo k (by omega) d5 d1 d7, hf4 k g1 d3 d4 d5]
   ·skip
    exact absurd hb (by simp)
    --dead
  ·skip
   exact absurd hb (by simp)
   --dead
end Go.Proofs.YtijhkfhflpmajaaGreat
namespace Go.Proofs.YtijhkfhflpmajaaGreat
open Go Go.Sx Go.Rt Go.Proofs
def Stp (S : Cas → Nat → List Nat → Nat → Heap → Nat → Prop) (c : Cas) (kx : Nat) (ks : List Nat) (m : Nat) (H : Heap) (n : Nat) (res : ARes) (H' : Heap) (n' : Nat) : Prop :=
  res = .val (.bool true) ∧ n ≤ n' ∧ (∃ ks', S c kx ks' (m + 1) H' n' ∧ ∀ k ∈ ks', k ∈ ks ∨ n ≤ k) ∧ ∀ k, k < n → k ∉ ks → H' k = H k
structure SOps (rd : Bool) (S : Cas → Nat → List Nat → Nat → Heap → Nat → Prop) : Prop where
  lt : ∀ {c kx ks m H n}, S c kx ks m H n → ∀ k ∈ ks, k < n
  frame : ∀ {c kx ks m m' H n H' n'}, S c kx ks m H n → n ≤ n' → m ≤ m' → (∀ k ∈ ks, H' k = H k) → S c kx ks m' H' n'
  push : ∀ {c kx ks m H n}, S c kx ks m H n → m ≤ 2000000 → ∀ e : Ent, (e.row.length ≤ 70000000000000 ∧ e.qual.length ≤ 70000000000000 ∧ e.value.length ≤ 70000000000000) → ACalls Tryz.prog 58 [.loc kx 0 0 0 [], casAV c, entAV e] H n (Stp S c kx ks m H n)
  fin : ∀ {c kx ks m H n}, S c kx ks m H n → m ≤ 2000000 → ACalls Tryz.prog 57 [.loc kx 0 0 0 [], casAV c] H n (Stp S c kx ks m H n)
  made : ∀ (c : Cas), c.s.length ≤ 2000000 → ∀ H n, ACalls Tryz.prog 56 [casAV c, .bool rd] H n fun res H' n' => n ≤ n' ∧ (∀ k, k < n → H' k = H k) ∧
    (res = .val (.tup [.nilp, .bool true]) ∨ ∃ kx ks, res = .val (.tup [.loc kx 0 0 0 [], .bool true]) ∧ S c kx ks 0 H' n' ∧ ∀ k ∈ ks, n ≤ k)
def ptrAV : Option Nat → AV
  | none => .nilp
  | some k => .loc k 0 0 0 []
theorem ptrAV_eql (P : Program) (t : TypeId) (o : Option Nat) : qBin P t .eql (ptrAV o) .nilp = some (tIsPtr P t = true, .bool o.isNone) := by cases o <;> rfl
theorem ptrAV_neq (P : Program) (t : TypeId) (o : Option Nat) : qBin P t .neq (ptrAV o) .nilp = some (tIsPtr P t = true, .bool o.isSome) := by cases o <;> rfl
theorem strip_ptr (g : Bool) (o : Option Nat) : strip g (ptrAV o) = ptrAV o := by cases o <;> cases g <;> rfl
theorem ptrAV_some (k : Nat) : ptrAV (some k) = .loc k 0 0 0 [] := rfl
theorem qand_int (P : Program) (t : TypeId) (a b : Int) : qBin P t .and (.int .i64 a) (.int .i64 b) = some (IntKind.i64 = IntKind.i64, .int .i64 (intBits .and .i64 a b)) := rfl
theorem qand_junk (P : Program) (t : TypeId) (x : AV) : qBin P t .and .junk x = none := by cases x <;> rfl
end Go.Proofs.YtijhkfhflpmajaaGreat
namespace Go.Proofs.YtijhkfhflpmajaaGreat
open Go Go.Sx Go.Rt Go.Proofs
theorem rSq_nil (s : List Fml) (clock low : Int) (mj : Bool) : (rSquashE s clock mj low []).2 = boundsE s clock [low] 1 := by
  rw [← squash_ref]
  unfold squashE prepE
  by_cases h : boundsE s clock [low] 1 = 0
  · rw [h]; rfl
  · rw [if_pos h, if_pos h]
theorem c_ref3_Squash_nil (s : List Fml) (clock low : Int) (mj : Bool) (H : Heap) (n : Nat) : Ret Tryz.prog 23 [schAV s, .int .i64 clock, .bool mj, .int .i64 low, .nilsl] H n (.tup [entsAV (rSquashE s clock mj low []).1, .int .i64 (boundsE s clock [low] 1)]) H n := by
  have h := c_ref3_Squash s clock low mj [] (by simp) (by simp) H n
  rw [rSq_nil] at h
  exact h.wk ⟨Wk.refl _, Wk.refl _, Wk.refl _, Wk.refl _, Wk.nilsl 7, trivial⟩
theorem g_made_no (c : Cas) (hs : c.s.length ≤ 2000000) (H : Heap) (n : Nat) (h0 : boundsE c.s c.clock [c.low] 1 ≠ 0) :
    ACalls Tryz.prog 56 [casAV c, .bool false] H n fun res H' n' => n ≤ n' ∧ (∀ k, k < n → H' k = H k) ∧ res = .val (.tup [.nilp, .bool true]) := by
  have rc : (0 : Nat) = 0 := rfl
  refine acalls_of_awp Tryz.func56 rfl Tryz.ntmps56 (congrArg Array.toList Tryz.results56) (by simp) ?_
  simp only [go_sem]
  refine awp_reg zs [1, 2] fun K hK => ?_
  try simp only [go_sem, seval, casAV]
  refine hK _ _ _ ?_; clear hK K
  refine awp_seq_k fun K1 hK1 => ?_
  refine awp_reg zs [2, 14] fun K hK => ?_
  try simp only [go_sem, seval]
  refine hK _ _ _ ?_; clear hK K
  refine awp_cnd (fun hb => ?_) (fun hb => ?_)
  ·skip
   exact absurd hb (by simp)
   --dead
  ·skip
   refine awp_skip ?_
   try simp only [go_sem, seval]
   refine hK1 _ _ _ ?_
   first | clear hK1 K1 | skip
   refine awp_reg zs [2, 10, 11] fun K hK => ?_
   try simp only [go_sem, seval]
   refine callK_useK (args' := [schAV c.s, .int .i64 c.clock, .bool c.major, .int .i64 c.low]) Tryz.func85 rfl rfl rfl (c_retain_NewFilter c.s hs c.clock c.low c.major _ (n + 1)) ?_ ?_
   rotate_left
   · intro p H' n' hp; cases hp.2.2.1 h0
   rintro r H2 n2 ⟨hn2, hf2, hp, _⟩
   cases hp h0
   have rc := (hf2 n (by omega)).trans (Heap.put_same _ _ _)
   try simp only [go_sem, seval]
   refine hK _ _ _ ?_; clear hK K
   refine awp_reg zs [10, 11, 13] fun K hK => ?_
   try simp only [go_sem, seval, rc]
   refine callK_use Tryz.func23 rfl rfl rfl ((c_ref3_Squash_nil c.s c.clock c.low c.major _ _)) ?_
   try simp only [go_sem, seval]
   refine hK _ _ _ ?_; clear hK K
   refine awp_seq_k fun K2 hK2 => ?_
   refine awp_reg zs [10, 89] fun K hK => ?_
   try simp only [go_sem, seval]
   refine callK_use Tryz.func16 rfl rfl rfl ((c_law_num _ _ _)) ?_
   try simp only [go_sem, seval, bne_self_eq_false, show (false == false) = true from rfl]
   refine hK _ _ _ ?_; clear hK K
   refine awp_cnd (fun hb => ?_) (fun hb => ?_)
   ·skip
    exact absurd hb (by simp [h0])
    --dead
   ·skip
    refine awp_skip ?_
    try simp only [go_sem, seval]
    refine hK2 _ _ _ ?_
    first | clear hK2 K2 | skip
    refine awp_seq_k fun K3 hK3 => ?_
    refine awp_reg zs [10, 91] fun K hK => ?_
    try simp only [go_sem, seval]
    refine hK _ _ _ ?_; clear hK K
    refine awp_cnd (fun hb => ?_) (fun hb => ?_)
    ·skip
     refine awp_reg zs [4, 5] fun K hK => ?_
     try simp only [go_sem, seval]
     refine hK _ _ _ ?_; clear hK K
     refine awp_ret ?_
     try simp only [go_sem, seval]
     exact ⟨by omega, fun k hk => (hf2 k (by omega)).trans (Heap.put_ne _ _ (by omega))⟩
    ·skip
     exact absurd hb (by simp)
     --dead
set_option maxHeartbeats 1600000 in
theorem g_made_ok (c : Cas) (hs : c.s.length ≤ 2000000) (H : Heap) (n : Nat) (h0 : boundsE c.s c.clock [c.low] 1 = 0) :
    ACalls Tryz.prog 56 [casAV c, .bool false] H n fun res H' n' => n ≤ n' ∧ (∀ k, k < n → H' k = H k) ∧ ∃ Y x, res = .val (.tup [.loc Y.kx 0 0 0 [], .bool true]) ∧ GFl c Y x H' n' ∧ x.i = 0 ∧ x.I = [] ∧ ∀ k ∈ Y.all, n ≤ k := by
  have rc : (0 : Nat) = 0 := rfl
  refine acalls_of_awp Tryz.func56 rfl Tryz.ntmps56 (congrArg Array.toList Tryz.results56) (by simp) ?_
  simp only [go_sem]
  refine awp_reg zs [1, 2] fun K hK => ?_
  try simp only [go_sem, seval, casAV]
  refine hK _ _ _ ?_; clear hK K
  refine awp_seq_k fun K1 hK1 => ?_
  refine awp_reg zs [2, 14] fun K hK => ?_
  try simp only [go_sem, seval]
  refine hK _ _ _ ?_; clear hK K
  refine awp_cnd (fun hb => ?_) (fun hb => ?_)
  ·skip
   exact absurd hb (by simp)
   --dead
  ·skip
   refine awp_skip ?_
   try simp only [go_sem, seval]
   refine hK1 _ _ _ ?_
   first | clear hK1 K1 | skip
   refine awp_reg zs [2, 10, 11] fun K hK => ?_
   try simp only [go_sem, seval]
   refine callK_useK (args' := [schAV c.s, .int .i64 c.clock, .bool c.major, .int .i64 c.low]) Tryz.func85 rfl rfl rfl (c_retain_NewFilter c.s hs c.clock c.low c.major _ (n + 1)) ?_ ?_
   rotate_left
   · intro p H' n' hp; obtain ⟨_, _, _, _, _, _, hx9, _⟩ := hp.2.2.2 h0; cases hx9
   rintro r H2 n2 ⟨hn2, hf2, _, hp⟩
   obtain ⟨kf, kw, kt, ko, lo, hk, hr2, hkf, hkw, hkt, hko, hfo, hst⟩ := hp h0
   cases hr2
   have rc := (hf2 n (by omega)).trans (Heap.put_same _ _ _)
   try simp only [go_sem, seval]
   refine hK _ _ _ ?_; clear hK K
   refine awp_reg zs [10, 11, 13] fun K hK => ?_
   try simp only [go_sem, seval, rc]
   refine callK_use Tryz.func23 rfl rfl rfl ((c_ref3_Squash_nil c.s c.clock c.low c.major _ _)) ?_
   try simp only [go_sem, seval, h0]
   refine hK _ _ _ ?_; clear hK K
   refine awp_seq_k fun K2 hK2 => ?_
   refine awp_reg zs [10, 89] fun K hK => ?_
   try simp only [go_sem, seval]
   refine callK_use Tryz.func16 rfl rfl rfl ((c_law_num _ _ _)) ?_
   try simp only [go_sem, seval, bne_self_eq_false, show (false == false) = true from rfl]
   refine hK _ _ _ ?_; clear hK K
   refine awp_cnd (fun hb => ?_) (fun hb => ?_)
   ·skip
    exact absurd hb (by simp)
    --dead
   ·skip
    refine awp_skip ?_
    try simp only [go_sem, seval]
    refine hK2 _ _ _ ?_
    first | clear hK2 K2 | skip
    refine awp_seq_k fun K3 hK3 => ?_
    refine awp_reg zs [10, 91] fun K hK => ?_
    try simp only [go_sem, seval]
    refine hK _ _ _ ?_; clear hK K
    refine awp_cnd (fun hb => ?_) (fun hb => ?_)
    ·skip
     exact absurd hb (by simp)
     --dead
    ·skip
     refine awp_skip ?_
     try simp only [go_sem, seval]
     refine hK3 _ _ _ ?_
     first | clear hK3 K3 | skip
     refine awp_reg zs [4, 5] fun K hK => ?_
     try simp only [go_sem, seval]
     repeat refine peel ?_
     refine hK _ _ _ ?_; clear hK K
     refine awp_wk_obj n2 (els' := [flowAV (.loc kf 0 0 0 []) .nilp .nilsl .nilsl noE false (dropAV ⟨0, 0, 0, 0, 0⟩)]) (Heap.put_same _ _ _) ⟨Wk.agg ⟨.refl _, .refl _, .refl _, .refl _, Wk.agg ⟨Wk.nilsl 1, .refl _, Wk.nilsl 1, .refl _, .refl _, .refl _, Wk.nilsl 1, trivial⟩, .refl _, .refl _, trivial⟩, trivial⟩ ?_
     refine awp_adopt_obj n2 7 (els' := [flowAV (.loc kf 0 0 0 []) .nilp (.osl (n2 + 1) 0 0 0) .nilsl noE false (dropAV ⟨0, 0, 0, 0, 0⟩)]) (Heap.put_same _ _ _) ⟨Adp.agg ⟨.refl _ _, .refl _ _, Adp.nilsl _, .refl _ _, .refl _ _, .refl _ _, .refl _ _, trivial⟩, trivial⟩ ?_
     refine awp_adopt_obj n2 7 (els' := [flowAV (.loc kf 0 0 0 []) .nilp (.osl (n2 + 1) 0 0 0) (.osl (n2 + 1 + 1) 0 0 0) noE false (dropAV ⟨0, 0, 0, 0, 0⟩)]) (Heap.put_same _ _ _) ⟨Adp.agg ⟨.refl _ _, .refl _ _, .refl _ _, Adp.nilsl _, .refl _ _, .refl _ _, .refl _ _, trivial⟩, trivial⟩ ?_
     refine awp_ret ?_
     try simp only [go_sem, seval]
     have q1 := hst.lt
     have q2 : kw < n2 := hst.ah.kw
     have q3 : kt < n2 := hst.ah.keys kt (.inl rfl)
     have q4 : ko < n2 := hst.ah.keys ko (.inr rfl)
     have q5 : kf ≠ kw := hst.nw
     have q6 : kf ≠ kt := fun e => hst.nk (.inl e)
     have g4 : ∀ k, k < n2 → ∀ o1 o2 o3 o4 o5, (((((H2.put n2 o1).put (n2 + 1) o2).put n2 o3).put (n2 + 2) o4).put n2 o5) k = H2 k := fun k h1 o1 o2 o3 o4 o5 => by
       rw [Heap.put_ne _ _ (by omega), Heap.put_ne _ _ (by omega), Heap.put_ne _ _ (by omega), Heap.put_ne _ _ (by omega), Heap.put_ne _ _ (by omega)]
     have hN2 : FNe ⟨n2, kf, kw, kt, ko, n2 + 1, n2 + 2⟩ := ⟨by show n2 ≠ kf; omega, by show n2 ≠ kw; omega, by show n2 ≠ kt; omega, by show n2 ≠ ko; omega, by show n2 ≠ n2 + 1; omega, by show n2 ≠ n2 + 2; omega, q5, q6, hfo, by show kf ≠ n2 + 1; omega, by show kf ≠ n2 + 2; omega, hk.a, hk.b, by show kw ≠ n2 + 1; omega, by show kw ≠ n2 + 2; omega, hk.c, by show kt ≠ n2 + 1; omega, by show kt ≠ n2 + 2; omega, by show ko ≠ n2 + 1; omega, by show ko ≠ n2 + 2; omega, by show n2 + 1 ≠ n2 + 2; omega⟩
     refine ⟨by omega, fun k hk9 => ?_, ⟨⟨n2, kf, kw, kt, ko, n2 + 1, n2 + 2⟩, ⟨0, wlk0 c.s c.clock, kst0 c.major c.low, [], [], [], [], noE, false, 0, 0, ⟨0, 0, 0, 0, 0⟩⟩, rfl, ?_, rfl, rfl, fun k hk9 => ?_⟩⟩
     · rw [if_neg (by omega), if_neg (by omega), if_neg (by omega), if_neg (by omega), if_neg (by omega)]
       exact (hf2 k (by omega)).trans (Heap.put_ne _ _ (by omega))
     · refine ⟨h0, KI.start, ⟨by simp [noE], by simp [noE], by simp [noE]⟩, fun k hk9 => ?_, hN2.nd, ?_, ?_, ?_, ?_, ?_⟩
       · simp only [FKeys.all, List.mem_cons, List.not_mem_nil, or_false] at hk9
         rcases hk9 with e1 | e1 | e1 | e1 | e1 | e1 | e1 <;> omega
       · exact Heap.put_same _ _ _
       · have e1 : n2 + 1 ≠ n2 := by omega
         have e2 : n2 + 1 ≠ n2 + 2 := by omega
         exact (Heap.put_ne _ _ e1).trans ((Heap.put_ne _ _ e2).trans ((Heap.put_ne _ _ e1).trans (Heap.put_same _ _ _)))
       · have e1 : n2 + 2 ≠ n2 := by omega
         exact (Heap.put_ne _ _ e1).trans (Heap.put_same _ _ _)
       · rw [g4 kf q1]; exact hst.at'
       · exact ⟨_, kah_frame hst.ah rfl (by omega) (g4 kw q2 _ _ _ _ _) (g4 kt q3 _ _ _ _ _) (g4 ko q4 _ _ _ _ _)⟩
     · simp only [FKeys.all, List.mem_cons, List.not_mem_nil, or_false] at hk9
       rcases hk9 with e1 | e1 | e1 | e1 | e1 | e1 | e1 <;> omega
def GS (c : Cas) (kx : Nat) (ks : List Nat) (m : Nat) (H : Heap) (n : Nat) : Prop := ∃ Y x, GFl c Y x H n ∧ Y.kx = kx ∧ Y.all = ks ∧ x.i ≤ 2 * m ∧ x.I.length ≤ m
theorem GStep.stp {c : Cas} {Y : FKeys} {x : GSt} {m di dI : Nat} {H : Heap} {n : Nat} {res : ARes} {H' : Heap} {n' : Nat} (h : GStep c Y x di dI H n res H' n') (h1 : x.i + di ≤ 2 * (m + 1)) (h2 : x.I.length + dI ≤ m + 1) : Stp GS c Y.kx Y.all m H n res H' n' := by
  obtain ⟨a1, a2, ⟨Y', x', b1, b2, b3, b4, b5⟩, a4⟩ := h
  exact ⟨a1, a2, ⟨Y'.all, ⟨Y', x', b1, b2, rfl, by omega, by omega⟩, b5⟩, a4⟩
theorem gOps : SOps false GS where
  lt := fun ⟨Y, x, h, e1, e2, _, _⟩ k hk => h.lt k (by rw [e2]; exact hk)
  frame := fun ⟨Y, x, h, e1, e2, e3, e4⟩ hn hm hr => ⟨Y, x, h.frame hn (fun k hk => hr k (by rw [← e2]; exact hk)), e1, e2, by omega, by omega⟩
  push := fun {c kx ks m H n} hS hm e he => by
    obtain ⟨Y, x, h, rfl, rfl, e3, e4⟩ := hS
    exact (g_push c Y x e he H n h (by omega) (by omega)).mono fun res H' n' hp => hp.stp (by omega) (by omega)
  fin := fun {c kx ks m H n} hS hm => by
    obtain ⟨Y, x, h, rfl, rfl, e3, e4⟩ := hS
    exact (g_end c Y x H n h (by omega) (by omega)).mono fun res H' n' hp => hp.stp (by omega) (by omega)
  made := fun c hs H n => by
    by_cases h0 : boundsE c.s c.clock [c.low] 1 = 0
    · refine (g_made_ok c hs H n h0).mono fun res H' n' ⟨a1, a2, Y, x, a3, a4, a5, a6, a7⟩ => ⟨a1, a2, .inr ⟨Y.kx, Y.all, a3, ⟨Y, x, a4, rfl, rfl, by omega, by rw [a6]; exact Nat.le_refl _⟩, a7⟩⟩
    · exact (g_made_no c hs H n h0).mono fun res H' n' ⟨a1, a2, a3⟩ => ⟨a1, a2, .inl a3⟩
end Go.Proofs.YtijhkfhflpmajaaGreat
namespace Go.Proofs.YtijhkfhflpmajaaGreat
open Go Go.Sx Go.Rt Go.Proofs
def HasS (S : Cas → Nat → List Nat → Nat → Heap → Nat → Prop) (c : Cas) (o : Option Nat) (ks : List Nat) (m : Nat) (H : Heap) (n : Nat) : Prop :=
  (o = none ∧ ks = []) ∨ ∃ kx, o = some kx ∧ S c kx ks m H n
structure Two (S : Cas → Nat → List Nat → Nat → Heap → Nat → Prop) (c d : Cas) (p q : Option Nat) (lo m : Nat) (ksp ksq : List Nat) (H : Heap) (n : Nat) : Prop where
  p : HasS S c p ksp m H n
  q : HasS S d q ksq m H n
  ap : ∀ k ∈ ksp, k ∉ ksq
  lp : ∀ k ∈ ksp, lo ≤ k
  lq : ∀ k ∈ ksq, lo ≤ k
theorem Two.swap {S : Cas → Nat → List Nat → Nat → Heap → Nat → Prop} {c d : Cas} {p q : Option Nat} {lo m : Nat} {ksp ksq : List Nat} {H : Heap} {n : Nat} (h : Two S c d p q lo m ksp ksq H n) : Two S d c q p lo m ksq ksp H n := ⟨h.q, h.p, fun k hk hk' => h.ap k hk' hk, h.lq, h.lp⟩
section
variable {rd : Bool} {S : Cas → Nat → List Nat → Nat → Heap → Nat → Prop} (hO : SOps rd S)
include hO
theorem HasS.lt {c : Cas} {o : Option Nat} {ks : List Nat} {m : Nat} {H : Heap} {n : Nat} (h : HasS S c o ks m H n) : ∀ k ∈ ks, k < n := by
  rcases h with ⟨_, e⟩ | ⟨kx, _, h⟩
  · intro k hk; rw [e] at hk; cases hk
  · exact hO.lt h
theorem HasS.frame {c : Cas} {o : Option Nat} {ks : List Nat} {m m' : Nat} {H H' : Heap} {n n' : Nat} (h : HasS S c o ks m H n) (hn : n ≤ n') (hm : m ≤ m') (hr : ∀ k ∈ ks, H' k = H k) : HasS S c o ks m' H' n' := by
  rcases h with ⟨a, e⟩ | ⟨kx, a, h⟩
  · exact .inl ⟨a, e⟩
  · exact .inr ⟨kx, a, hO.frame h hn hm hr⟩
theorem Two.frame {c d : Cas} {p q : Option Nat} {lo m m' : Nat} {ksp ksq : List Nat} {H H' : Heap} {n n' : Nat} (h : Two S c d p q lo m ksp ksq H n) (hn : n ≤ n') (hm : m ≤ m') (hr : ∀ k, k < n → H' k = H k) : Two S c d p q lo m' ksp ksq H' n' :=
  ⟨h.p.frame hO hn hm (fun k hk => hr k (h.p.lt hO k hk)), h.q.frame hO hn hm (fun k hk => hr k (h.q.lt hO k hk)), h.ap, h.lp, h.lq⟩
theorem Two.stepP {c d : Cas} {kx : Nat} {q : Option Nat} {lo m : Nat} {ksp ksq : List Nat} {H : Heap} {n : Nat} (h : Two S c d (some kx) q lo m ksp ksq H n) (hlo : lo ≤ n) : S c kx ksp m H n ∧ ∀ {res H' n'}, Stp S c kx ksp m H n res H' n' → ∃ ksp', Two S c d (some kx) q lo (m + 1) ksp' ksq H' n' ∧ ∀ k, k < lo → H' k = H k := by
  rcases h.p with ⟨e, _⟩ | ⟨kx', e, hS⟩
  · cases e
  · cases e
    refine ⟨hS, fun {res H' n'} ⟨a1, a2, ⟨ks', b1, b2⟩, a4⟩ => ⟨ks', ⟨.inr ⟨kx, rfl, b1⟩, h.q.frame hO a2 (by omega) (fun k hk => a4 k (h.q.lt hO k hk) (fun hk' => h.ap k hk' hk)), fun k hk hk' => ?_, fun k hk => ?_, h.lq⟩, fun k hk => a4 k (by omega) (fun hk' => by have := h.lp k hk'; omega)⟩⟩
    · rcases b2 k hk with g | g
      · exact h.ap k g hk'
      · have := h.q.lt hO k hk'; omega
    · rcases b2 k hk with g | g
      · exact h.lp k g
      · omega
theorem Two.step {c d : Cas} {p q : Option Nat} {lo m : Nat} {ksp ksq : List Nat} {H : Heap} {n : Nat} (h : Two S c d p q lo m ksp ksq H n) (hlo : lo ≤ n) (sel : Bool) {kx : Nat} (hx : (bif sel then q else p) = some kx) :
    ∃ ks, S (bif sel then d else c) kx ks m H n ∧ ∀ {res H' n'}, Stp S (bif sel then d else c) kx ks m H n res H' n' → (∃ ksp' ksq', Two S c d p q lo (m + 1) ksp' ksq' H' n') ∧ ∀ k, k < lo → H' k = H k := by
  cases sel with
  | false =>
    obtain rfl : p = some kx := hx
    obtain ⟨h1, h2⟩ := h.stepP hO hlo
    exact ⟨ksp, h1, fun hs => by obtain ⟨ks', g1, g2⟩ := h2 hs; exact ⟨⟨ks', ksq, g1⟩, g2⟩⟩
  | true =>
    obtain rfl : q = some kx := hx
    obtain ⟨h1, h2⟩ := (h.swap).stepP hO hlo
    exact ⟨ksq, h1, fun hs => by obtain ⟨ks', g1, g2⟩ := h2 hs; exact ⟨⟨ksp, ks', g1.swap⟩, g2⟩⟩
theorem SOps.made' (c : Cas) (hc : c.s.length ≤ 2000000) (H : Heap) (n : Nat) : ACalls Tryz.prog 56 [casAV c, .bool rd] H n fun res H' n' => n ≤ n' ∧ (∀ k, k < n → H' k = H k) ∧ ∃ o ks, res = .val (.tup [ptrAV o, .bool true]) ∧ HasS S c o ks 0 H' n' ∧ ∀ k ∈ ks, n ≤ k :=
  (hO.made c hc H n).mono fun res H' n' ⟨a1, a2, a3⟩ => by
    refine ⟨a1, a2, ?_⟩
    rcases a3 with a3 | ⟨kx, ks, a3, a4, a5⟩
    · exact ⟨none, [], a3, .inl ⟨rfl, rfl⟩, fun k hk => by cases hk⟩
    · exact ⟨some kx, ks, a3, .inr ⟨kx, rfl, a4⟩, a5⟩
end
set_option maxHeartbeats 1600000 in
theorem c_law_streams {rd : Bool} {S : Cas → Nat → List Nat → Nat → Heap → Nat → Prop} (hO : SOps rd S) (c d : Cas) (hc : c.s.length ≤ 2000000) (hd : d.s.length ≤ 2000000) (l : List Ent) (hl : l.length ≤ 1048576) (hf : ∀ e ∈ l, e.row.length ≤ 70000000000000 ∧ e.qual.length ≤ 70000000000000 ∧ e.value.length ≤ 70000000000000) (who : List Int) (H : Heap) (n : Nat) :
    Ret Tryz.prog 28 [casAV c, casAV d, entsAV l, intsAV who, .bool rd] H n (.bool true) H n := by
  have r5 : (0 : Nat) = 0 := rfl
  have r6 : (0 : Nat) = 0 := rfl
  have q5 : (0 : Nat) = 0 := rfl
  have q6 : (0 : Nat) = 0 := rfl
  refine Ret.fin ?_
  refine acalls_of_awp Tryz.func28 rfl Tryz.ntmps28 (congrArg Array.toList Tryz.results28) (by simp) ?_
  simp only [go_sem]
  refine awp_reg zs [2, 3, 4, 5, 6] fun K hK => ?_
  try simp only [go_sem, seval, casAV]
  refine hK _ _ _ ?_; clear hK K
  refine awp_reg zs [2, 3, 4, 5, 6, 11] fun K hK => ?_
  try simp only [go_sem, seval]
  refine callK_use Tryz.func11 rfl rfl rfl ((c_law_started _ _)) ?_
  try simp only [go_sem, seval]
  refine hK _ _ _ ?_; clear hK K
  refine awp_seq_k fun K1 hK1 => ?_
  refine awp_reg zs [2, 3, 4, 5, 6, 19] fun K hK => ?_
  try simp only [go_sem, seval]
  refine hK _ _ _ ?_; clear hK K
  refine awp_cnd (fun hb => ?_) (fun hb => ?_)
  ·skip
   exact absurd hb (by simp)
   --dead
  ·skip
   refine awp_skip ?_
   try simp only [go_sem, seval]
   refine hK1 _ _ _ ?_
   first | clear hK1 K1 | skip
   refine awp_reg zs [2, 3, 4, 5, 6, 11, 12] fun K hK => ?_
   try simp only [go_sem, seval]
   refine callK_useK (args' := [casAV c, .bool rd]) Tryz.func56 rfl rfl rfl (hO.made' c hc _ (n + 2)) ?_ ?_
   rotate_left
   · intro p H' n' hp; obtain ⟨_, _, _, _, h9, _⟩ := hp; cases h9
   rintro r H2 n2 ⟨hn2, hf2, po, ksp, hr2, hP, hkp⟩
   cases hr2
   have r5 : H2 n = some (.arr 0 6 [casAV c]) := (hf2 n (by omega)).trans ((Heap.put_ne _ _ (by omega)).trans (Heap.put_same _ _ _))
   have r6 : H2 (n + 1) = some (.arr 0 6 [casAV d]) := (hf2 (n + 1) (by omega)).trans (Heap.put_same _ _ _)
   try simp only [go_sem, seval, strip_ptr]
   refine hK _ _ _ ?_; clear hK K
   refine awp_seq_k fun K2 hK2 => ?_
   refine awp_reg zs [2, 3, 4, 5, 6, 12, 27] fun K hK => ?_
   try simp only [go_sem, seval]
   refine hK _ _ _ ?_; clear hK K
   refine awp_cnd (fun hb => ?_) (fun hb => ?_)
   ·skip
    exact absurd hb (by simp)
    --dead
   ·skip
    refine awp_skip ?_
    try simp only [go_sem, seval]
    refine hK2 _ _ _ ?_
    first | clear hK2 K2 | skip
    refine awp_reg zs [2, 3, 5, 6, 11, 12, 13] fun K hK => ?_
    try simp only [go_sem, seval, r6, casAV]
    refine callK_useK (args' := [casAV d, .bool rd]) Tryz.func56 rfl rfl rfl (hO.made' d hd _ _) ?_ ?_
    rotate_left
    · intro p H' n' hp; obtain ⟨_, _, _, _, h9, _⟩ := hp; cases h9
    rintro r H3 n3 ⟨hn3, hf3, qo, ksq, hr3, hQ, hkq⟩
    cases hr3
    have r5 : H3 n = some (.arr 0 6 [casAV c]) := (hf3 n (by omega)).trans r5
    have r6 : H3 (n + 1) = some (.arr 0 6 [casAV d]) := (hf3 (n + 1) (by omega)).trans r6
    have hT : Two S c d po qo (n + 2) 0 ksp ksq H3 n3 := ⟨hP.frame hO hn3 (Nat.le_refl _) (fun k hk => hf3 k (hP.lt hO k hk)), hQ, fun k hk hk' => by have := hP.lt hO k hk; have := hkq k hk'; omega, hkp, fun k hk => by have := hkq k hk; omega⟩
    have hlow : ∀ k, k < n → H3 k = H k := fun k hk => (hf3 k (by omega)).trans ((hf2 k (by omega)).trans ((Heap.put_ne _ _ (by omega)).trans (Heap.put_ne _ _ (by omega))))
    try simp only [go_sem, seval, strip_ptr]
    refine hK _ _ _ ?_; clear hK K
    refine awp_seq_k fun K3 hK3 => ?_
    refine awp_reg zs [2, 3, 5, 6, 11, 12, 13, 35] fun K hK => ?_
    try simp only [go_sem, seval]
    refine hK _ _ _ ?_; clear hK K
    refine awp_cnd (fun hb => ?_) (fun hb => ?_)
    ·skip
     exact absurd hb (by simp)
     --dead
    ·skip
     refine awp_skip ?_
     try simp only [go_sem, seval]
     refine hK3 _ _ _ ?_
     first | clear hK3 K3 | skip
     refine awp_seq_k fun K4 hK4 => ?_
     refine awp_reg zs [2, 3, 5, 6, 11, 12, 13, 14] fun K hK => ?_
     try simp only [go_sem, seval]
     refine hK _ _ _ ?_; clear hK K
     refine awp_block ?_
     refine awp_loop (fun T' H' n' => ∃ (i : Nat) (ksp ksq : List Nat), i ≤ l.length ∧ T' = tl [(2, .sl 7 (l.map entAV)), (3, .sl 1 (who.map (.int .i64))), (5, .loc n 0 0 0 []), (6, .loc (n + 1) 0 0 0 []), (11, .bool true), (12, ptrAV po), (13, ptrAV qo), (14, .int .i64 i)] ∧ n3 ≤ n' ∧ Two S c d po qo (n + 2) i ksp ksq H' n' ∧ ∀ k, k < n + 2 → H' k = H3 k) (fun T' _ _ => l.length - iv (T' 14)) ?_ ?_
     ·skip
      exact ⟨0, ksp, ksq, Nat.zero_le _, rfl, Nat.le_refl _, hT, fun k _ => rfl⟩
     intro T1 H1 n1
     rintro ⟨i, ksp, ksq, hi, rfl, hn, hT, hrest⟩
     have r5 := (hrest n (by omega)).trans r5
     have r6 := (hrest (n + 1) (by omega)).trans r6
     simp only [casAV] at r5 r6
     have q5 : (n = n1) = False := by simp; omega
     have q6 : (n + 1 = n1) = False := by simp; omega
     refine awp_seq_k fun K5 hK5 => ?_
     refine awp_reg zs [2, 3, 5, 6, 11, 12, 13, 14, 42] fun K hK => ?_
     try simp only [go_sem, seval]
     repeat refine peel ?_
     refine hK _ _ _ ?_; clear hK K
     refine awp_cnd (fun hb => ?_) (fun hb => ?_)
     ·skip
      have hlt : i < l.length := by simpa using hb
      have hnth : nth (l.map entAV) i = entAV (l.getD i default) := nth_map entAV l i hlt
      have hfe := hf (l.getD i default) (by simp [List.getD, List.getElem?_eq_getElem hlt])
      generalize l.getD i default = e at *
      refine awp_skip ?_
      try simp only [go_sem, seval]
      refine hK5 _ _ _ ?_
      first | clear hK5 K5 | skip
      refine awp_seq_k fun K6 hK6 => ?_
      refine awp_block ?_
      refine awp_reg zs [2, 3, 5, 6, 11, 12, 13, 14, 15] fun K hK => ?_
      try simp only [go_sem, seval, strip_ptr]
      refine hK _ _ _ ?_; clear hK K
      refine awp_reg zs [2, 3, 5, 6, 11, 12, 13, 14, 15, 16] fun K hK => ?_
      try simp only [go_sem, seval, r5]
      refine hK _ _ _ ?_; clear hK K
      refine awp_seq_j (fun T' H' n' => ∃ sel : Bool, T' = tl [(2, .sl 7 (l.map entAV)), (3, .sl 1 (who.map (.int .i64))), (5, .loc n 0 0 0 []), (6, .loc (n + 1) 0 0 0 []), (11, .bool true), (12, ptrAV po), (13, ptrAV qo), (14, .int .i64 i), (15, ptrAV (bif sel then qo else po)), (16, .loc n1 0 0 0 [])] ∧ n' = n1 + 1 ∧ H' = H1.put n1 (some (.arr 0 6 [casAV (bif sel then d else c)]))) ?_ ?_
      ·skip
       rcases Nat.lt_or_ge i who.length with hw | hw
       ·skip
        have hg15 : decide ((i : Int) < ((who.map (AV.int .i64)).length : Int)) = true := decide_eq_true (by simp; omega)
        have hnw : nth (List.map (AV.int .i64) who) i = .int .i64 (who.getD i default) := nth_map _ who i hw
        refine awp_reg zs [2, 3, 5, 6, 11, 12, 13, 14, 15, 16, 58] fun K hK => ?_
        try simp only [go_sem, seval, casAV, qand_int, contG_some, hg15, hnw, Int.toNat_natCast, show (true == true) = true from rfl, forall_const, and_true, true_and]
        repeat (first | (refine And.intro ?_ ?_; · first | exact ⟨rfl, rfl⟩ | (simp; omega)) | refine peel ?_)
        refine hK _ _ _ ?_; clear hK K
        refine awp_cnd (fun hb => ?_) (fun hb => ?_)
        ·skip
         refine awp_reg zs [2, 3, 5, 6, 11, 12, 13, 14, 15, 16] fun K hK => ?_
         try simp only [go_sem, seval, casAV, strip_ptr]
         refine hK _ _ _ ?_; clear hK K
         refine awp_reg1 zs [2, 3, 5, 6, 11, 12, 13, 14, 15, 16] fun K hK => ?_
         try simp only [go_sem, seval, r6, q6, casAV]
         refine hK _ _ _ ?_; clear hK K
         try simp only [go_sem, seval, casAV]
         first | exact ⟨true, rfl, rfl⟩ | exact ⟨false, rfl, rfl⟩ | exact ⟨true, rfl⟩ | exact ⟨false, rfl⟩
        ·skip
         refine awp_sel [2, 3, 5, 6, 11, 12, 13, 14, 15, 16] ?_
         refine awp_skip ?_
         try simp only [go_sem, seval, casAV]
         first | exact ⟨true, rfl, rfl⟩ | exact ⟨false, rfl, rfl⟩ | exact ⟨true, rfl⟩ | exact ⟨false, rfl⟩
       ·skip
        have hg15 : decide ((i : Int) < ((who.map (AV.int .i64)).length : Int)) = false := decide_eq_false (by simp; omega)
        have hnw : nth (List.map (AV.int .i64) who) i = .junk := by simp [nth, List.getD, hw]
        refine awp_reg zs [2, 3, 5, 6, 11, 12, 13, 14, 15, 16, 58] fun K hK => ?_
        try simp only [go_sem, seval, casAV, qand_junk, contG_none, contG_some, hg15, hnw, Int.toNat_natCast, show (false == true) = false from rfl, show (false = true) = False from eq_false (by decide), false_implies, and_true, true_and]
        repeat (first | (refine And.intro ?_ ?_; · first | exact ⟨rfl, rfl⟩ | (simp; omega)) | refine peel ?_)
        refine hK _ _ _ ?_; clear hK K
        refine awp_cnd (fun hb => ?_) (fun hb => ?_)
        ·skip
         refine awp_reg zs [2, 3, 5, 6, 11, 12, 13, 14, 15, 16] fun K hK => ?_
         try simp only [go_sem, seval, casAV, strip_ptr]
         refine hK _ _ _ ?_; clear hK K
         refine awp_reg1 zs [2, 3, 5, 6, 11, 12, 13, 14, 15, 16] fun K hK => ?_
         try simp only [go_sem, seval, r6, q6, casAV]
         refine hK _ _ _ ?_; clear hK K
         try simp only [go_sem, seval, casAV]
         first | exact ⟨true, rfl, rfl⟩ | exact ⟨false, rfl, rfl⟩ | exact ⟨true, rfl⟩ | exact ⟨false, rfl⟩
        ·skip
         refine awp_sel [2, 3, 5, 6, 11, 12, 13, 14, 15, 16] ?_
         refine awp_skip ?_
         try simp only [go_sem, seval, casAV]
         first | exact ⟨true, rfl, rfl⟩ | exact ⟨false, rfl, rfl⟩ | exact ⟨true, rfl⟩ | exact ⟨false, rfl⟩
      rintro T9 H9 n9 ⟨sel, rfl, rfl, rfl⟩
      have hT9 := hT.frame (H' := H1.put n1 (some (.arr 0 6 [casAV (bif sel then d else c)]))) (n' := n1 + 1) hO (by omega) (Nat.le_refl _) (fun k hk => Heap.put_ne _ _ (by omega))
      have hstep := fun kx (hx : (bif sel then qo else po) = some kx) => hT9.step hO (by omega) sel hx
      generalize (bif sel then qo else po) = xo at *
      generalize (bif sel then d else c) = c9 at *
      refine awp_seq_k fun K7 hK7 => ?_
      refine awp_reg zs [2, 3, 5, 6, 11, 12, 13, 14, 15, 16, 62] fun K hK => ?_
      try simp only [go_sem, seval, casAV, ptrAV_eql, strip_ptr]
      refine hK _ _ _ ?_; clear hK K
      refine awp_cnd (fun hb => ?_) (fun hb => ?_)
      ·skip
       refine awp_exit ?_
       try simp only [go_sem, seval]
       refine hK6 _ _ _ ?_
       first | clear hK6 K6 | skip
       refine awp_reg1 zs [2, 3, 5, 6, 11, 12, 13, 14] fun K hK => ?_
       try simp only [go_sem, seval]
       refine hK _ _ _ ?_; clear hK K
       try simp only [go_sem, seval]
       first
       | exact ⟨⟨i + 1, ksp2, ksq2, by omega, by rw [w1 (by omega)], by omega, hT2, fun k hk => (hlow2 k hk).trans ((Heap.put_ne _ _ (by omega)).trans (hrest k hk))⟩, by rw [w1 (by omega)]; simp; omega⟩
       | exact ⟨⟨i + 1, ksp, ksq, by omega, by rw [w1 (by omega)], by omega, hT9.frame hO (Nat.le_refl _) (by omega) (fun k _ => rfl), fun k hk => (Heap.put_ne _ _ (by omega)).trans (hrest k hk)⟩, by rw [w1 (by omega)]; simp; omega⟩
      ·skip
       obtain ⟨kx, rfl⟩ : ∃ kx, xo = some kx := by cases xo with | none => cases hb | some kx => exact ⟨kx, rfl⟩
       obtain ⟨ks, hS, hback⟩ := hstep kx rfl
       refine awp_skip ?_
       try simp only [go_sem, seval]
       refine hK7 _ _ _ ?_
       first | clear hK7 K7 | skip
       refine awp_reg zs [2, 3, 5, 6, 12, 13, 14, 15, 16, 68] fun K hK => ?_
       try simp only [go_sem, seval, hnth, Int.toNat_natCast, List.length_map]
       repeat (first | (refine And.intro ?_ ?_; · first | omega | (simp; omega)) | refine peel ?_)
       refine hK _ _ _ ?_; clear hK K
       refine awp_cnd (fun hb => ?_) (fun hb => ?_)
       ·skip
        refine awp_reg1 zs [2, 3, 5, 6, 11, 12, 13, 14] fun K hK => ?_
        try simp only [go_sem, seval, ptrAV_some]
        refine callK_useK (args' := [.loc kx 0 0 0 [], casAV c9]) Tryz.func57 rfl rfl rfl (hO.fin hS (by omega)) ?_ ?_
        rotate_left
        · intro p H' n' hp; cases hp.1
        intro r H8 n8 hst
        have hst1 := hst.1
        cases hst1
        have hn8 := hst.2.1
        obtain ⟨⟨ksp2, ksq2, hT2⟩, hlow2⟩ := hback hst
        try simp only [go_sem, seval]
        refine hK _ _ _ ?_; clear hK K
        try simp only [go_sem, seval]
        refine hK6 _ _ _ ?_
        first | clear hK6 K6 | skip
        refine awp_reg1 zs [2, 3, 5, 6, 11, 12, 13, 14] fun K hK => ?_
        try simp only [go_sem, seval]
        refine hK _ _ _ ?_; clear hK K
        try simp only [go_sem, seval]
        first
        | exact ⟨⟨i + 1, ksp2, ksq2, by omega, by rw [w1 (by omega)], by omega, hT2, fun k hk => (hlow2 k hk).trans ((Heap.put_ne _ _ (by omega)).trans (hrest k hk))⟩, by rw [w1 (by omega)]; simp; omega⟩
        | exact ⟨⟨i + 1, ksp, ksq, by omega, by rw [w1 (by omega)], by omega, hT9.frame hO (Nat.le_refl _) (by omega) (fun k _ => rfl), fun k hk => (Heap.put_ne _ _ (by omega)).trans (hrest k hk)⟩, by rw [w1 (by omega)]; simp; omega⟩
       ·skip
        refine awp_drw1 rfl zs [2, 3, 5, 6, 11, 12, 13, 14] [.m, .q, .m, .m, .q, .q, .w [], .q] (by kernel_rfl) (fun _ _ _ _ _ h => h) fun K hK => ?_
        try simp only [go_sem, seval, hnth, Int.toNat_natCast, List.length_map, ptrAV_some]
        repeat (first | (refine And.intro ?_ ?_; · first | exact ⟨rfl, by rw [entAV_sz]⟩ | exact ⟨by omega, rfl, by rw [entAV_sz]⟩ | omega) | refine peel ?_)
        refine callK_useK (args' := [.loc kx 0 0 0 [], casAV c9, entAV e]) Tryz.func58 rfl rfl rfl (hO.push hS (by omega) e hfe) ?_ ?_
        rotate_left
        · intro p H' n' hp; cases hp.1
        intro r H8 n8 hst
        have hst1 := hst.1
        cases hst1
        have hn8 := hst.2.1
        obtain ⟨⟨ksp2, ksq2, hT2⟩, hlow2⟩ := hback hst
        try simp only [go_sem, seval]
        repeat (first | (refine And.intro ?_ ?_; · first | exact ⟨rfl, by rw [entAV_sz]⟩ | exact ⟨by omega, rfl, by rw [entAV_sz]⟩ | omega) | refine peel ?_)
        refine hK _ _ _ ?_; clear hK K
        try simp only [go_sem, seval]
        refine hK6 _ _ _ ?_
        first | clear hK6 K6 | skip
        refine awp_reg1 zs [2, 3, 5, 6, 11, 12, 13, 14] fun K hK => ?_
        try simp only [go_sem, seval]
        refine hK _ _ _ ?_; clear hK K
        try simp only [go_sem, seval]
        first
        | exact ⟨⟨i + 1, ksp2, ksq2, by omega, by rw [w1 (by omega)], by omega, hT2, fun k hk => (hlow2 k hk).trans ((Heap.put_ne _ _ (by omega)).trans (hrest k hk))⟩, by rw [w1 (by omega)]; simp; omega⟩
        | exact ⟨⟨i + 1, ksp, ksq, by omega, by rw [w1 (by omega)], by omega, hT9.frame hO (Nat.le_refl _) (by omega) (fun k _ => rfl), fun k hk => (Heap.put_ne _ _ (by omega)).trans (hrest k hk)⟩, by rw [w1 (by omega)]; simp; omega⟩
     ·skip
      refine awp_exit ?_
      try simp only [go_sem, seval]
      refine hK4 _ _ _ ?_
      first | clear hK4 K4 | skip
      refine awp_seq_j (fun T' H' n' => ∃ (ksp ksq : List Nat) (m : Nat), T' = tl [(6, .loc (n + 1) 0 0 0 []), (11, .bool true), (13, ptrAV qo)] ∧ n3 ≤ n' ∧ m ≤ 1048579 ∧ Two S c d po qo (n + 2) m ksp ksq H' n' ∧ ∀ k, k < n + 2 → H' k = H3 k) ?_ ?_
      ·skip
       refine awp_reg zs [5, 6, 11, 12, 13, 83] fun K hK => ?_
       try simp only [go_sem, seval, ptrAV_neq, strip_ptr]
       repeat refine peel ?_
       refine hK _ _ _ ?_; clear hK K
       refine awp_cnd (fun hb => ?_) (fun hb => ?_)
       ·skip
        obtain ⟨kp, rfl⟩ : ∃ kp, po = some kp := by cases po with | none => cases hb | some kx => exact ⟨kx, rfl⟩
        obtain ⟨hS, hback⟩ := hT.stepP hO (by omega)
        refine awp_reg1 zs [6, 11, 13] fun K hK => ?_
        try simp only [go_sem, seval, r5, ptrAV_some]
        refine callK_useK (args' := [.loc kp 0 0 0 [], casAV c]) Tryz.func57 rfl rfl rfl (hO.fin hS (by omega)) ?_ ?_
        rotate_left
        · intro p H' n' hp; cases hp.1
        intro r H8 n8 hst
        have hst1 := hst.1
        cases hst1
        have hn8 := hst.2.1
        obtain ⟨ksp2, hT2, hlow2⟩ := hback hst
        have r5 := (hlow2 n (by omega)).trans r5
        obtain ⟨hS2, hback2⟩ := hT2.stepP hO (by omega)
        try simp only [go_sem, seval, r5, show (true == true) = true from rfl]
        refine callG_true rfl ?_
        refine callK_useK (args' := [.loc kp 0 0 0 [], casAV c]) Tryz.func57 rfl rfl rfl (hO.fin hS2 (by omega)) ?_ ?_
        rotate_left
        · intro p H' n' hp; cases hp.1
        intro r H9 n9 hst2
        have hst3 := hst2.1
        cases hst3
        have hn9 := hst2.2.1
        obtain ⟨ksp3, hT3, hlow3⟩ := hback2 hst2
        try simp only [go_sem, seval]
        refine hK _ _ _ ?_; clear hK K
        try simp only [go_sem, seval]
        first
        | exact ⟨ksp3, ksq, i + 1 + 1, rfl, by omega, by omega, hT3, fun k hk => (hlow3 k hk).trans ((hlow2 k hk).trans (hrest k hk))⟩
        | exact ⟨ksp3, ksq, i + 1 + 1, by omega, by omega, hT3, fun k hk => (hlow3 k hk).trans ((hlow2 k hk).trans (hrest k hk))⟩
        | exact ⟨ksp, ksq, i, rfl, by omega, by omega, hT, hrest⟩
        | exact ⟨ksp, ksq, i, by omega, by omega, hT, hrest⟩
       ·skip
        refine awp_sel [6, 11, 13] ?_
        refine awp_skip ?_
        try simp only [go_sem, seval]
        first
        | exact ⟨ksp3, ksq, i + 1 + 1, rfl, by omega, by omega, hT3, fun k hk => (hlow3 k hk).trans ((hlow2 k hk).trans (hrest k hk))⟩
        | exact ⟨ksp3, ksq, i + 1 + 1, by omega, by omega, hT3, fun k hk => (hlow3 k hk).trans ((hlow2 k hk).trans (hrest k hk))⟩
        | exact ⟨ksp, ksq, i, rfl, by omega, by omega, hT, hrest⟩
        | exact ⟨ksp, ksq, i, by omega, by omega, hT, hrest⟩
      rintro T9 H9 n9 ⟨ksp, ksq, m, rfl, hn9, hm, hT9, hrest9⟩
      have r6 := ((hrest9 (n + 1) (by omega)).trans (hrest (n + 1) (by omega)).symm).trans r6
      refine awp_seq_k fun K8 hK8 => ?_
      refine awp_reg zs [6, 11, 13, 96] fun K hK => ?_
      try simp only [go_sem, seval, ptrAV_neq, strip_ptr]
      repeat refine peel ?_
      refine hK _ _ _ ?_; clear hK K
      refine awp_cnd (fun hb => ?_) (fun hb => ?_)
      ·skip
       obtain ⟨kq, rfl⟩ : ∃ kq, qo = some kq := by cases qo with | none => cases hb | some kx => exact ⟨kx, rfl⟩
       obtain ⟨hS, hback⟩ := (hT9.swap).stepP hO (by omega)
       refine awp_reg1 zs [11] fun K hK => ?_
       try simp only [go_sem, seval, r6, ptrAV_some]
       refine callK_useK (args' := [.loc kq 0 0 0 [], casAV d]) Tryz.func57 rfl rfl rfl (hO.fin hS (by omega)) ?_ ?_
       rotate_left
       · intro p H' n' hp; cases hp.1
       intro r H8 n8 hst
       have hst1 := hst.1
       cases hst1
       obtain ⟨ksp2, hT2, hlow2⟩ := hback hst
       try simp only [go_sem, seval]
       refine hK _ _ _ ?_; clear hK K
       try simp only [go_sem, seval]
       refine hK8 _ _ _ ?_
       first | clear hK8 K8 | skip
       refine awp_reg zs [10] fun K hK => ?_
       try simp only [go_sem, seval]
       refine hK _ _ _ ?_; clear hK K
       refine awp_ret ?_
       try simp only [go_sem, seval]
       first
       | exact ⟨_, rfl, fun k hk => (hlow2 k (by omega)).trans ((hrest9 k (by omega)).trans (hlow k hk)), .kl trivial⟩
       | exact ⟨_, rfl, fun k hk => (hrest9 k (by omega)).trans (hlow k hk), .kl trivial⟩
      ·skip
       refine awp_skip ?_
       try simp only [go_sem, seval]
       refine hK8 _ _ _ ?_
       first | clear hK8 K8 | skip
       refine awp_reg zs [10] fun K hK => ?_
       try simp only [go_sem, seval]
       refine hK _ _ _ ?_; clear hK K
       refine awp_ret ?_
       try simp only [go_sem, seval]
       first
       | exact ⟨_, rfl, fun k hk => (hlow2 k (by omega)).trans ((hrest9 k (by omega)).trans (hlow k hk)), .kl trivial⟩
       | exact ⟨_, rfl, fun k hk => (hrest9 k (by omega)).trans (hlow k hk), .kl trivial⟩
end Go.Proofs.YtijhkfhflpmajaaGreat
namespace Go.Proofs.YtijhkfhflpmajaaGreat
open Go Go.Sx Go.Rt Go.Proofs
theorem c_law_RetainFilters (c d : Cas) (hc : c.s.length ≤ 1048576) (hd : d.s.length ≤ 1048576) (l : List Ent) (hl : l.length ≤ 1048576) (hf : ∀ e ∈ l, e.row.length ≤ 1048576 ∧ e.qual.length ≤ 1048576 ∧ e.value.length ≤ 1048576) (who : List Int) (H : Heap) (n : Nat) :
    Ret Tryz.prog 8 [casAV c, casAV d, entsAV l, intsAV who] H n (.bool true) H n := by
  refine Ret.fin ?_
  refine acalls_of_awp Tryz.func8 rfl Tryz.ntmps8 (congrArg Array.toList Tryz.results8) (by simp) ?_
  simp only [go_sem]
  refine awp_reg zs [2, 3, 4, 5] fun K hK => ?_
  try simp only [go_sem, ↓reduceIte, Nat.reduceEqDiff, Nat.reduceLT, Nat.reduceAdd, casAV]
  refine hK _ _ _ ?_; clear hK K
  refine awp_reg zs [8] fun K hK => ?_
  try simp only [go_sem, ↓reduceIte, Nat.reduceEqDiff, Nat.reduceLT, Nat.reduceAdd]
  refine callK_use Tryz.func28 rfl rfl rfl ((c_law_streams gOps c d (by omega) (by omega) l hl (fun e he => by have := hf e he; omega) who _ _)) ?_
  try simp only [go_sem]
  refine hK _ _ _ ?_; clear hK K
  refine awp_ret ?_
  try simp only [go_sem, ↓reduceIte]
  exact ⟨_, rfl, fun k hk => (Heap.put_ne _ _ (by omega)).trans (Heap.put_ne _ _ (by omega)), .kl trivial⟩
end Go.Proofs.YtijhkfhflpmajaaGreat