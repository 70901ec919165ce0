/- Own layer: streams: an entry is pushed into a walk. Of the program; no condition. -/
import Derived.Test.YtijhkfhflpmajaaGreatFE
import Derived.Test.YtijhkfhflpmajaaGreatFG
import Derived.Test.YtijhkfhflpmajaaGreatFM
import Derived.Test.YtijhkfhflpmajaaGreatFF
set_option linter.unusedSimpArgs false
set_option linter.unusedVariables false
namespace Go.Proofs.YtijhkfhflpmajaaGreat
open Go Go.Sx Go.Rt Go.Proofs
def pushR (w : Wlk) (e : Ent) : Bool × Int :=
  if checkedE w.s e ≠ 0 then (false, checkedE w.s e)
  else if w.any = true then
    if 0 < compE w.last e then (false, 30)
    else if compE w.last e = 0 ∧ w.last = e then (false, 0)
    else if compE w.last e = 0 ∨ w.last.seq = e.seq then (false, 31)
    else (true, 0)
  else (true, 0)
theorem pushR_err {w : Wlk} {e : Ent} (h : (pushR w e).2 ≠ 0) : (pushR w e).1 = false := by
  unfold pushR at h ⊢
  repeat' split
  all_goals first | rfl | (exfalso; simp_all)
def pushW (w : Wlk) (e : Ent) : Wlk := bif (pushR w e).1 then nextW (preW w e) e else w
def pushT {P : Program} (T : Tk P) (w : Wlk) (st : T.σ) (e : Ent) : T.σ := bif (pushR w e).1 then nextT T (preW w e) (preT T w st e) e else st
def strAV {P : Program} (T : Tk P) : AV := .agg [.agg [.loc T.kw 0 0 0 []], T.recv]
structure StrOK {P : Program} (T : Tk P) (H : Heap) (n : Nat) (kf : Nat) (w : Wlk) (st : T.σ) : Prop where
  ah : Ahead T H n w st
  at' : H kf = some (.arr 0 2 [strAV T])
  lt : kf < n
  nw : kf ≠ T.kw
  nk : ¬ T.keys kf
structure AmidS {P : Program} (T : Tk P) (H : Heap) (n kf : Nat) (x : LEnt) (w : Wlk) (st : T.σ) (T' : Nat → AV) (H' : Heap) (n' : Nat) : Prop where
  t0 : T' 0 = .loc kf 0 0 0 [0]
  t3 : T' 3 = .loc n 0 0 0 []
  en : H' n = some (.arr 0 7 [lentAV x])
  le : n + 1 ≤ n'
  walk : H' T.kw = some (.arr 0 25 [walkAV T w])
  tk : T.holds st H' n'
  rest : ∀ k, k < n → k ≠ T.kw → ¬ T.keys k → H' k = H k
set_option maxRecDepth 100000 in
set_option maxHeartbeats 1600000 in
theorem c_stream_push (T : Tk Tryz.prog) (ok : T.σ → Prop) (hT : TkOK T ok) (w : Wlk) (st : T.σ) (x : LEnt) (kf : Nat) (H : Heap) (n : Nat) (hs : StrOK T H n kf w st) (hx : x.ok H n) (hxk : ∀ k ∈ x.ks, k ≠ T.kw ∧ ¬ T.keys k) (hfit : x.e.fits)
    (hok : ok st) (hok1 : ok (preT T w st x.e)) (hok2 : ok (nt1 T (preW w x.e) (preT T w st x.e) x.e)) (hwk : WOK w) (hwk2 : WOK (preW w x.e)) :
    ACalls Tryz.prog 118 [.loc kf 0 0 0 [0], lentAV x] H n fun res H' n' => res = .val (.tup [.bool (pushR w x.e).1, .int .i64 (pushR w x.e).2]) ∧ Rt.Left T H n (pushW w x.e) (pushT T w st x.e) H' n' := by
  obtain ⟨⟨hkw, hkeys, hw0, htk0⟩, hkf0, hkfn, hkfw, hkfk⟩ := hs
  have hkf := hkf0
  simp only [strAV] at hkf
  have hw := hw0
  simp only [walkAV, tkAV] at hw
  have q1 : (T.kw = n) = False := by simp; omega
  have q2 : (kf = n) = False := by simp; omega
  have q3 : (n = T.kw) = False := by simp; omega
  have q4 : (x.r.k = n) = False := by have := hx.r.lt; simp; omega
  have hxr := hx.r.at'
  have hxt := hx.r.tk
  have hxl := hx.r.len
  have hmb := map_byteOf x.e.row
  have hmb2 := map_byteOf w.last.row
  have hib := bys_isByte x.e.row
  have hib2 := bys_isByte w.last.row
  have hx1 : ∀ o, x.ok (H.put n o) (n + 1) := fun o => hx.mono (fun k hk => Heap.put_ne _ _ (by omega)) (by omega)
  have hcmp : ∀ m o, Ret Tryz.prog 66 [entAV w.last, lentAV x] (H.put n o) m (.int .i64 (compE w.last x.e)) (H.put n o) m := fun m o => Ret.lend trivial (.cons (.kl (kl_ent w.last 0)) (.cons (hx1 o).frz .nil)) (c_cell_Compare w.last x.e _ _)
  have hsam : ∀ m o, Ret Tryz.prog 63 [entAV w.last, lentAV x] (H.put n o) m (.bool (sameE w.last x.e)) (H.put n o) m := fun m o => Ret.lend trivial (.cons (.kl (kl_ent w.last 0)) (.cons (hx1 o).frz .nil)) (c_retain_same w.last x.e _ _)
  have hchk : ∀ m o, Ret Tryz.prog 73 [schAV w.s, lentAV x] (H.put n o) m (.int .i64 (checkedE w.s x.e)) (H.put n o) m := fun m o => Ret.lend trivial (.cons (.kl (kl_sch w.s 0)) (.cons (hx1 o).frz .nil)) (c_retain_checked w.s x.e _ _)
  refine acalls_of_awp Tryz.func118 rfl Tryz.ntmps118 (congrArg Array.toList Tryz.results118) (by simp) ?_
  simp only [go_sem]
  refine awp_reg zs [0, 3] fun K hK => ?_
  try simp only [go_sem, seval]
  refine hK _ _ _ ?_; clear hK K
  refine awp_seq_k fun K1 hK1 => ?_
  refine awp_drw rfl zs [0, 3, 6] [.m, .q, .q, .q, .q, .q, .q, .q, .c, .q] (by kernel_rfl) (fun _ _ _ _ _ h => h) fun K hK => ?_
  try simp only [go_sem, seval, hw, hkf, q1, q2]
  refine callQG_use Tryz.func73 rfl rfl rfl (fun _ n => (hchk _ _)) ?_
  try simp only [go_sem, seval]
  refine hK _ _ _ ?_; clear hK K
  refine awp_reg zs [0, 3, 6, 18] fun K hK => ?_
  try simp only [go_sem, seval]
  refine hK _ _ _ ?_; clear hK K
  refine awp_cnd (fun hb => ?_) (fun hb => ?_)
  ·skip
   have hce : checkedE w.s x.e ≠ 0 := by simpa using hb
   have hR : pushR w x.e = (false, checkedE w.s x.e) := by unfold pushR; rw [if_pos hce]
   refine awp_reg zs [4, 5] fun K hK => ?_
   try simp only [go_sem, seval]
   refine hK _ _ _ ?_; clear hK K
   refine awp_ret ?_
   try simp only [go_sem, seval]
   first
   | (have hW : pushW w x.e = nextW (preW w x.e) x.e := by unfold pushW; rw [hR]; rfl
      have hT9 : pushT T w st x.e = nextT T (preW w x.e) (preT T w st x.e) x.e := by unfold pushT; rw [hR]; rfl
      rw [hR, hW, hT9]
      exact ⟨rfl, hL.up (by omega) hrest⟩)
   | (have hW : pushW w x.e = w := by unfold pushW; rw [hR]; rfl
      have hT9 : pushT T w st x.e = st := by unfold pushT; rw [hR]; rfl
      rw [hR, hW, hT9]
      exact ⟨rfl, by omega, (Heap.put_ne _ _ (by omega)).trans hw0, T.ext st H _ n _ (by omega) (fun k hk h2 => Heap.put_ne _ _ (by omega)) htk0, fun k hk _ _ => Heap.put_ne _ _ (by omega)⟩)
  ·skip
   have hce : ¬ checkedE w.s x.e ≠ 0 := by simpa using hb
   refine awp_skip ?_
   try simp only [go_sem, seval]
   refine hK1 _ _ _ ?_
   first | clear hK1 K1 | skip
   refine awp_seq_j (fun T' H' n' => T' = tl [(0, .loc kf 0 0 0 [0]), (3, .loc n 0 0 0 [])] ∧ H' = H.put n (some (.arr 0 7 [lentAV x])) ∧ n' = n + 1 ∧ pushR w x.e = (true, 0)) ?_ ?_
   ·skip
    refine awp_reg zs [0, 3, 26] fun K hK => ?_
    try simp only [go_sem, seval, hw, hkf, q1, q2]
    refine hK _ _ _ ?_; clear hK K
    refine awp_cnd (fun hb => ?_) (fun hb => ?_)
    ·skip
     have hany : w.any = true := hb
     refine awp_drw rfl zs [0, 3, 7] [.m, .q, .q, .q, .q, .q, .q, .q, .c, .q] (by kernel_rfl) (fun _ _ _ _ _ h => h) fun K hK => ?_
     try simp only [go_sem, seval, hw, hkf, q1, q2]
     refine callQG_use Tryz.func66 rfl rfl rfl (fun _ n => (hcmp _ _)) ?_
     try simp only [go_sem, seval]
     refine hK _ _ _ ?_; clear hK K
     refine awp_block ?_
     refine awp_reg zs [0, 3, 7, 36] fun K hK => ?_
     try simp only [go_sem, seval]
     refine hK _ _ _ ?_; clear hK K
     refine awp_cnd (fun hb => ?_) (fun hb => ?_)
     ·skip
      have hR : pushR w x.e = (false, 30) := by unfold pushR; rw [if_neg hce, if_pos hany, if_pos (of_decide_eq_true hb)]
      refine awp_reg zs [4, 5] fun K hK => ?_
      try simp only [go_sem, seval]
      refine hK _ _ _ ?_; clear hK K
      refine awp_ret ?_
      try simp only [go_sem, seval]
      first
      | (have hW : pushW w x.e = nextW (preW w x.e) x.e := by unfold pushW; rw [hR]; rfl
         have hT9 : pushT T w st x.e = nextT T (preW w x.e) (preT T w st x.e) x.e := by unfold pushT; rw [hR]; rfl
         rw [hR, hW, hT9]
         exact ⟨rfl, hL.up (by omega) hrest⟩)
      | (have hW : pushW w x.e = w := by unfold pushW; rw [hR]; rfl
         have hT9 : pushT T w st x.e = st := by unfold pushT; rw [hR]; rfl
         rw [hR, hW, hT9]
         exact ⟨rfl, by omega, (Heap.put_ne _ _ (by omega)).trans hw0, T.ext st H _ n _ (by omega) (fun k hk h2 => Heap.put_ne _ _ (by omega)) htk0, fun k hk _ _ => Heap.put_ne _ _ (by omega)⟩)
     ·skip
      have hc1 : ¬ 0 < compE w.last x.e := of_decide_eq_false hb
      refine awp_drw rfl zs [0, 3, 7, 39] [.m, .q, .m, .m, .q, .q, .q, .q, .q, .q, .q, .c, .q, .q] (by kernel_rfl) (fun _ _ _ _ _ h => h) fun K hK => ?_
      try simp only [go_sem, seval, hw, hkf, q1, q2]
      refine callQG_use Tryz.func63 rfl rfl rfl (fun _ n => (hsam _ _)) ?_
      try simp only [go_sem, seval]
      repeat refine peel ?_
      refine hK _ _ _ ?_; clear hK K
      refine awp_cnd (fun hb => ?_) (fun hb => ?_)
      ·skip
       have hc2 : compE w.last x.e = 0 ∧ w.last = x.e := by cases h9 : (compE w.last x.e == 0) <;> simp_all [sameE]
       have hR : pushR w x.e = (false, 0) := by unfold pushR; rw [if_neg hce, if_pos hany, if_neg hc1, if_pos hc2]
       refine awp_reg zs [4, 5] fun K hK => ?_
       try simp only [go_sem, seval]
       refine hK _ _ _ ?_; clear hK K
       refine awp_ret ?_
       try simp only [go_sem, seval]
       first
       | (have hW : pushW w x.e = nextW (preW w x.e) x.e := by unfold pushW; rw [hR]; rfl
          have hT9 : pushT T w st x.e = nextT T (preW w x.e) (preT T w st x.e) x.e := by unfold pushT; rw [hR]; rfl
          rw [hR, hW, hT9]
          exact ⟨rfl, hL.up (by omega) hrest⟩)
       | (have hW : pushW w x.e = w := by unfold pushW; rw [hR]; rfl
          have hT9 : pushT T w st x.e = st := by unfold pushT; rw [hR]; rfl
          rw [hR, hW, hT9]
          exact ⟨rfl, by omega, (Heap.put_ne _ _ (by omega)).trans hw0, T.ext st H _ n _ (by omega) (fun k hk h2 => Heap.put_ne _ _ (by omega)) htk0, fun k hk _ _ => Heap.put_ne _ _ (by omega)⟩)
      ·skip
       have hc2 : ¬ (compE w.last x.e = 0 ∧ w.last = x.e) := by cases h9 : (compE w.last x.e == 0) <;> simp_all [sameE]
       refine awp_drw rfl zs [0, 3, 53] [.m, .q, .m, .m, .q, .q, .q, .q, .q, .q, .q, .q, .q, .q, .q, .q] (by kernel_rfl) (fun _ _ _ _ _ h => h) fun K hK => ?_
       try simp only [go_sem, seval, hw, hkf, q1, q2]
       repeat refine peel ?_
       refine hK _ _ _ ?_; clear hK K
       refine awp_cnd (fun hb => ?_) (fun hb => ?_)
       ·skip
        have hc3 : compE w.last x.e = 0 ∨ w.last.seq = x.e.seq := by cases h9 : (compE w.last x.e == 0) <;> simp_all
        have hR : pushR w x.e = (false, 31) := by unfold pushR; rw [if_neg hce, if_pos hany, if_neg hc1, if_neg hc2, if_pos hc3]
        refine awp_reg zs [4, 5] fun K hK => ?_
        try simp only [go_sem, seval]
        refine hK _ _ _ ?_; clear hK K
        refine awp_ret ?_
        try simp only [go_sem, seval]
        first
        | (have hW : pushW w x.e = nextW (preW w x.e) x.e := by unfold pushW; rw [hR]; rfl
           have hT9 : pushT T w st x.e = nextT T (preW w x.e) (preT T w st x.e) x.e := by unfold pushT; rw [hR]; rfl
           rw [hR, hW, hT9]
           exact ⟨rfl, hL.up (by omega) hrest⟩)
        | (have hW : pushW w x.e = w := by unfold pushW; rw [hR]; rfl
           have hT9 : pushT T w st x.e = st := by unfold pushT; rw [hR]; rfl
           rw [hR, hW, hT9]
           exact ⟨rfl, by omega, (Heap.put_ne _ _ (by omega)).trans hw0, T.ext st H _ n _ (by omega) (fun k hk h2 => Heap.put_ne _ _ (by omega)) htk0, fun k hk _ _ => Heap.put_ne _ _ (by omega)⟩)
       ·skip
        have hc3 : ¬ (compE w.last x.e = 0 ∨ w.last.seq = x.e.seq) := by cases h9 : (compE w.last x.e == 0) <;> simp_all
        have hR : pushR w x.e = (true, 0) := by unfold pushR; rw [if_neg hce, if_pos hany, if_neg hc1, if_neg hc2, if_neg hc3]
        refine awp_sel [0, 3] ?_
        refine awp_skip ?_
        try simp only [go_sem, seval]
        first | exact ⟨rfl, rfl, rfl, hR⟩ | exact hR
    ·skip
     have hany : ¬ w.any = true := by rw [Bool.not_eq_true]; exact hb
     have hR : pushR w x.e = (true, 0) := by unfold pushR; rw [if_neg hce, if_neg hany]
     refine awp_sel [0, 3] ?_
     refine awp_skip ?_
     try simp only [go_sem, seval]
     first | exact ⟨rfl, rfl, rfl, hR⟩ | exact hR
   rintro T1 H1 n1 ⟨rfl, rfl, rfl, hR⟩
   refine awp_seq_j (AmidS T H n kf x (preW w x.e) (preT T w st x.e)) ?_ ?_
   ·skip
    refine awp_drw rfl zs [0, 3, 90] [.m, .q, .q, .q, .q, .q, .q, .m, .m, .q, .q, .q, .q, .q, .q, .q, .q, .q, .q, .q, .q, .q] (by kernel_rfl) (fun _ _ _ _ _ h => h) fun K hK => ?_
    try simp only [go_sem, seval, hw, hkf, q1, q2, hxr, hxt, hmb, hmb2, q4, List.drop_zero, Nat.zero_add]
    repeat (first | (refine And.intro ?_ ?_; · first | exact fun _ => ⟨rfl, rfl, hxl, rfl, rfl, hib⟩ | exact fun _ => ⟨rfl, rfl, hib2⟩ | exact fun _ => ⟨hxl, hib⟩ | exact fun _ => hib2) | refine peel ?_)
    refine hK _ _ _ ?_; clear hK K
    refine awp_cnd (fun hb => ?_) (fun hb => ?_)
    ·skip
     have hnr : rowNew w x.e = true := hb
     refine awp_reg1 zs [0, 3] fun K hK => ?_
     try simp only [go_sem, seval, hkf, q2]
     refine callK_useK (args' := [.loc T.kw 0 0 0 []]) Tryz.func78 rfl rfl rfl (c_retain_walk_close T ok hT w st _ (n + 1) ⟨by omega, fun k hk => by have := hkeys k hk; omega, (Heap.put_ne _ _ (by omega)).trans hw0, T.ext st H _ n _ (by omega) (fun k hk h2 => Heap.put_ne _ _ (by omega)) htk0⟩ hok hwk) ?_ ?_
     rotate_left
     · intro p H' n' h; cases h.1
     intro r H2 n2 ⟨hr2, hL⟩
     cases hr2
     refine hK _ _ _ ?_; clear hK K
     try simp only [go_sem, seval]
     first
     | (refine ⟨rfl, rfl, ?_, by have := hL.le; omega, ?_, ?_, fun k hk h1 h2 => ?_⟩
        · rw [hL.rest n (by omega) (by omega) (fun h => by have := hkeys n h; omega)]; exact Heap.put_same _ _ _
        · simp only [preW, hnr, cond_true]; exact hL.walk
        · simp only [preT, hnr, cond_true]; exact hL.tk
        · rw [hL.rest k (by omega) h1 h2, Heap.put_ne _ _ (by omega)])
     | (refine ⟨rfl, rfl, Heap.put_same _ _ _, by omega, ?_, ?_, fun k hk h1 h2 => Heap.put_ne _ _ (by omega)⟩
        · simp only [preW, hnr, cond_false]; exact (Heap.put_ne _ _ (by omega)).trans hw0
        · simp only [preT, hnr, cond_false]
          exact T.ext st H _ n _ (by omega) (fun k hk h2 => Heap.put_ne _ _ (by omega)) htk0)
    ·skip
     have hnr : rowNew w x.e = false := hb
     refine awp_sel [0, 3] ?_
     refine awp_skip ?_
     try simp only [go_sem, seval]
     first
     | (refine ⟨rfl, rfl, ?_, by have := hL.le; omega, ?_, ?_, fun k hk h1 h2 => ?_⟩
        · rw [hL.rest n (by omega) (by omega) (fun h => by have := hkeys n h; omega)]; exact Heap.put_same _ _ _
        · simp only [preW, hnr, cond_true]; exact hL.walk
        · simp only [preT, hnr, cond_true]; exact hL.tk
        · rw [hL.rest k (by omega) h1 h2, Heap.put_ne _ _ (by omega)])
     | (refine ⟨rfl, rfl, Heap.put_same _ _ _, by omega, ?_, ?_, fun k hk h1 h2 => Heap.put_ne _ _ (by omega)⟩
        · simp only [preW, hnr, cond_false]; exact (Heap.put_ne _ _ (by omega)).trans hw0
        · simp only [preT, hnr, cond_false]
          exact T.ext st H _ n _ (by omega) (fun k hk h2 => Heap.put_ne _ _ (by omega)) htk0)
   rintro T1 H1 n1 ⟨ht0, ht3, he0, hn, hw9, htk, hrest⟩
   refine awp_sel [0, 3] ?_
   simp only [tsel_eq, List.map_cons, List.map_nil, ht0, ht3]
   have hkf9 := (hrest kf hkfn hkfw hkfk).trans hkf0
   simp only [strAV] at hkf9
   have hx9 : x.ok H1 n1 := ⟨⟨hx.r.tohere.mono (hrest _ hx.r.lt (hxk _ (by simp [LEnt.ks])).1 (hxk _ (by simp [LEnt.ks])).2), by have := hx.r.lt; omega⟩, ⟨hx.q.tohere.mono (hrest _ hx.q.lt (hxk _ (by simp [LEnt.ks])).1 (hxk _ (by simp [LEnt.ks])).2), by have := hx.q.lt; omega⟩, ⟨hx.v.tohere.mono (hrest _ hx.v.lt (hxk _ (by simp [LEnt.ks])).1 (hxk _ (by simp [LEnt.ks])).2), by have := hx.v.lt; omega⟩⟩
   refine awp_drw rfl zs [] [.m, .q, .q, .q, .q, .w [1, 2, 3], .w []] (by kernel_rfl) (fun _ _ _ _ _ h => h) fun K hK => ?_
   try simp only [go_sem, seval, hkf9, he0]
   refine callK_use Tryz.func64 rfl rfl rfl ((l_retain_copied x hfit _ _ hx9)) ?_
   try simp only [go_sem, seval, hkf9]
   refine callK_useK (args' := [.loc T.kw 0 0 0 [], entAV x.e]) Tryz.func77 rfl rfl rfl (c_retain_walk_next T ok hT (preW w x.e) (preT T w st x.e) x.e H1 n1 ⟨by omega, fun k hk => by have := hkeys k hk; omega, hw9, htk⟩ hok1 hok2 hwk2 hfit) ?_ ?_
   rotate_left
   · intro p H' n' h; cases h.1
   intro r H2 n2 ⟨hr2, hL⟩
   cases hr2
   refine hK _ _ _ ?_; clear hK K
   refine awp_reg zs [4, 5] fun K hK => ?_
   try simp only [go_sem, seval]
   refine hK _ _ _ ?_; clear hK K
   refine awp_ret ?_
   try simp only [go_sem, seval]
   first
   | (have hW : pushW w x.e = nextW (preW w x.e) x.e := by unfold pushW; rw [hR]; rfl
      have hT9 : pushT T w st x.e = nextT T (preW w x.e) (preT T w st x.e) x.e := by unfold pushT; rw [hR]; rfl
      rw [hR, hW, hT9]
      exact ⟨rfl, hL.up (by omega) hrest⟩)
   | (have hW : pushW w x.e = w := by unfold pushW; rw [hR]; rfl
      have hT9 : pushT T w st x.e = st := by unfold pushT; rw [hR]; rfl
      rw [hR, hW, hT9]
      exact ⟨rfl, by omega, (Heap.put_ne _ _ (by omega)).trans hw0, T.ext st H _ n _ (by omega) (fun k hk h2 => Heap.put_ne _ _ (by omega)) htk0, fun k hk _ _ => Heap.put_ne _ _ (by omega)⟩)
def freshW (w : Wlk) : Wlk := { closeW w with any := false }
theorem c_stream_fresh (T : Tk Tryz.prog) (ok : T.σ → Prop) (hT : TkOK T ok) (w : Wlk) (st : T.σ) (kf : Nat) (H : Heap) (n : Nat) (hs : StrOK T H n kf w st) (hok : ok st) (hwk : WOK w) :
    ACalls Tryz.prog 114 [.loc kf 0 0 0 [0]] H n fun res H' n' => res = .val (.tup []) ∧ Rt.Left T H n (freshW w) (closeT T w st) H' n' := by
  obtain ⟨⟨hkw, hkeys, hw0, htk0⟩, hkf0, hkfn, hkfw, hkfk⟩ := hs
  have hkf := hkf0
  simp only [strAV] at hkf
  have hkf9 : (0 : Nat) = 0 := rfl
  have hw9 : (0 : Nat) = 0 := rfl
  refine acalls_of_awp Tryz.func114 rfl Tryz.ntmps114 (congrArg Array.toList Tryz.results114) (by simp) ?_
  simp only [go_sem]
  refine awp_reg zs [0] fun K hK => ?_
  try simp only [go_sem, seval, hkf]
  refine callK_useK (args' := [.loc T.kw 0 0 0 []]) Tryz.func78 rfl rfl rfl (c_retain_walk_close T ok hT w st H n ⟨hkw, hkeys, hw0, htk0⟩ hok hwk) ?_ ?_
  rotate_left
  · intro p H' n' h; cases h.1
  intro r H2 n2 ⟨hr2, hL⟩
  cases hr2
  have hkf9 := (hL.rest kf hkfn hkfw hkfk).trans hkf0
  simp only [strAV] at hkf9
  have hw9 := hL.walk
  simp only [walkAV, tkAV] at hw9
  refine hK _ _ _ ?_; clear hK K
  refine awp_reg1 zs [] fun K hK => ?_
  try simp only [go_sem, seval, hkf9, hw9]
  refine hK _ _ _ ?_; clear hK K
  try simp only [go_sem, seval]
  exact left_put hL.le hL.tk hL.rest (freshW w)
end Go.Proofs.YtijhkfhflpmajaaGreat
namespace Go.Proofs.YtijhkfhflpmajaaGreat
open Go Go.Sx Go.Rt Go.Proofs
theorem c_slices_Clip (k ver len : Nat) (els : List AV) (e : Nat) (H : Heap) (n : Nat) (hH : H k = some (.arr ver e els)) (hl : len ≤ els.length) (he : e = 7) : Ret Tryz.prog 134 [.osl k ver 0 len] H n (.osl k ver 0 len) H n := by
  subst he
  refine acalls_of_awp Tryz.func134 rfl Tryz.ntmps134 (congrArg Array.toList Tryz.results134) (by simp) ?_
  simp only [go_sem]
  refine awp_reg zs [0] fun K hK => ?_
  try simp only [go_sem, seval]
  refine hK _ _ _ ?_; clear hK K
  refine awp_reg zs [2] fun K hK => ?_
  try simp only [go_sem, seval, hH]
  repeat (first | (refine And.intro ?_ ?_; · first | exact ⟨rfl, by omega⟩ | (simp; omega)) | refine peel ?_)
  refine hK _ _ _ ?_; clear hK K
  refine awp_ret ?_
  try simp only [go_sem, seval]
  simp
theorem c_retain_schema (s : List Fml) (hs : s.length ≤ 2000000) (H : Heap) (n : Nat) : Ret Tryz.prog 113 [schAV s] H n (schAV s) H n := by
  refine Ret.fin ?_
  refine acalls_of_awp Tryz.func113 rfl Tryz.ntmps113 (congrArg Array.toList Tryz.results113) (by simp) ?_
  simp only [go_sem]
  refine awp_rq zs [1, 2] ?_
  refine awp_reg zs [2] fun K hK => ?_
  try simp only [go_sem, seval]
  repeat (first | (refine And.intro ?_ ?_; · first | exact ⟨trivial, .inr rfl, by simp; omega, by simp; omega⟩ | (simp; omega)) | refine peel ?_)
  refine hK _ _ _ ?_; clear hK K
  refine awp_ret ?_
  try simp only [go_sem, seval]
  refine ⟨_, rfl, ?_, .kl (kl_sch s n)⟩
  intro k hk; have h0 : k ≠ n := by omega
  have h1 : ∀ j, k ≠ n + j := fun j => by omega
  simp [Heap.put, h0, h1]
end Go.Proofs.YtijhkfhflpmajaaGreat
namespace Go.Proofs.YtijhkfhflpmajaaGreat
open Go Go.Sx Go.Rt Go.Proofs
def keptN (kw : Nat) (s : KSt) : AV := .agg [.bool s.major, .int .i64 s.low, .nilsl, .agg [.int .i64 s.older, .int .i64 s.masked, .int .i64 s.expired, .int .i64 s.above, .int .i64 s.marks], .loc kw 0 0 0 []]
theorem f_out (kw kt ko kf : Nat) (st : KSt) (els : List AV) (H : Heap) (n : Nat) (hkf : H kf = some (.arr 0 2 [.agg [.agg [.loc kw 0 0 0 []], .loc kt 0 0 0 []]])) (hkt : H kt = some (.arr 0 9 [keptAV kw ko st])) (hko : H ko = some (.arr st.out.length 7 els)) (hl : els.length = st.out.length) (h1 : kf ≠ kt) (h2 : ko ≠ kt) :
    Ret Tryz.prog 115 [.loc kf 0 0 0 []] H n (.osl ko st.out.length 0 st.out.length) (H.put kt (some (.arr 0 9 [keptN kw st]))) n := by
  have q1 : (kf = kt) = False := by simp [h1]
  have q2 : (ko = kt) = False := by simp [h2]
  simp only [keptAV] at hkt
  refine acalls_of_awp Tryz.func115 rfl Tryz.ntmps115 (congrArg Array.toList Tryz.results115) (by simp) ?_
  simp only [go_sem]
  refine awp_reg zs [0] fun K hK => ?_
  try simp only [go_sem, seval]
  refine hK _ _ _ ?_; clear hK K
  refine awp_reg zs [0, 3] fun K hK => ?_
  try simp only [go_sem, seval, hkf, hkt]
  refine hK _ _ _ ?_; clear hK K
  refine awp_reg zs [3] fun K hK => ?_
  try simp only [go_sem, seval, hkf, hkt]
  refine hK _ _ _ ?_; clear hK K
  refine awp_reg zs [2] fun K hK => ?_
  try simp only [go_sem, seval]
  refine callK_use Tryz.func134 rfl rfl rfl ((c_slices_Clip ko st.out.length st.out.length els 7 _ _ ((Heap.put_ne _ _ h2).trans hko) (by omega) rfl)) ?_
  try simp only [go_sem, seval]
  refine hK _ _ _ ?_; clear hK K
  refine awp_ret ?_
  try simp only [go_sem, seval]
  exact rfl
def pushF (kw kt ko lo : Nat) (h : KSep kw kt ko lo) (w : Wlk) (st : KSt) (e : Ent) : KSt := bif (pushR w e).1 then pushT (keptTk kw kt ko lo h) w st e else keptO st
theorem kept_oldL {kw kt ko lo : Nat} {h : KSep kw kt ko lo} {w' : Wlk} {st : KSt} {H H2 : Heap} {n n2 : Nat} (hL : Rt.Left (keptTk kw kt ko lo h) H n w' st H2 n2) : Rt.Left (keptTk kw kt ko lo h) H n w' (keptO st) (H2.put kt (some (.arr 0 9 [keptAV kw ko (keptO st)]))) n2 := by
  obtain ⟨a, b, ⟨c1, c2, c3⟩, d⟩ := hL
  exact ⟨a, (Heap.put_ne _ _ h.a).trans b, ⟨c1, Heap.put_same _ _ _, c3.mono (Heap.put_ne _ _ (Ne.symm h.c)) (fun k h1 h2 => Heap.put_ne _ _ (by have := h.e; omega)) (Nat.le_refl _)⟩, fun k g1 g2 g3 => (Heap.put_ne _ _ (fun e => g3 (.inl e))).trans (d k g1 g2 g3)⟩
def FPost (kw kt ko lo : Nat) (h : KSep kw kt ko lo) (kf : Nat) (w : Wlk) (st : KSt) (e : Ent) (H : Heap) (n : Nat) (res : ARes) (H' : Heap) (n' : Nat) : Prop :=
  ((pushR w e).2 ≠ 0 → res = .val (.tup [.nilsl, .int .i64 (pushR w e).2]) ∧ Rt.Left (keptTk kw kt ko lo h) H n w st H' n') ∧
  ((pushR w e).2 = 0 → ∃ (ko' lo' : Nat) (h' : KSep kw kt ko' lo') (xs : List LEnt), res = .val (.tup [.osl ko xs.length 0 xs.length, .int .i64 0]) ∧ n ≤ ko' ∧ n ≤ lo' ∧ xs.map (·.e) = (pushF kw kt ko lo h w st e).out ∧ H' ko = some (.arr xs.length 7 (xs.map lentAV)) ∧ MineL H' lo n' xs ∧ lo ≤ n' ∧ n ≤ n' ∧ ko' ∉ xs.flatMap LEnt.ks ∧
    Ahead (keptTk kw kt ko' lo' h') H' n' (pushW w e) { pushF kw kt ko lo h w st e with out := [] } ∧ ∀ k, k < n → k ≠ kw → k ≠ kt → k ≠ ko → H' k = H k)
theorem kept_strAV (kw kt ko lo : Nat) (h : KSep kw kt ko lo) : strAV (keptTk kw kt ko lo h) = .agg [.agg [.loc kw 0 0 0 []], .loc kt 0 0 0 []] := rfl
set_option maxHeartbeats 1600000 in
theorem f_Push0 (kw kt ko lo : Nat) (h : KSep kw kt ko lo) (w : Wlk) (st : KSt) (x : LEnt) (kf : Nat) (H : Heap) (n : Nat) (hs : StrOK (keptTk kw kt ko lo h) H n kf w st) (hx : x.ok H n) (hxk : ∀ k ∈ x.ks, k ≠ kw ∧ k ≠ kt ∧ k ≠ ko) (hfit : x.e.fits)
    (hok : KSt.ok st) (hok1 : KSt.ok (preT (keptTk kw kt ko lo h) w st x.e)) (hok2 : KSt.ok (nt1 (keptTk kw kt ko lo h) (preW w x.e) (preT (keptTk kw kt ko lo h) w st x.e) x.e)) (hwk : WOK w) (hwk2 : WOK (preW w x.e)) :
    ACalls Tryz.prog 93 [.loc kf 0 0 0 [], lentAV x] H n fun res H' n' =>
      ((pushR w x.e).2 ≠ 0 → res = .val (.tup [.nilsl, .int .i64 (pushR w x.e).2]) ∧ Rt.Left (keptTk kw kt ko lo h) H n w st H' n') ∧
      ((pushR w x.e).2 = 0 → ∃ (H2 : Heap), res = .val (.tup [.osl ko (pushF kw kt ko lo h w st x.e).out.length 0 (pushF kw kt ko lo h w st x.e).out.length, .int .i64 0]) ∧ Rt.Left (keptTk kw kt ko lo h) H n (pushW w x.e) (pushF kw kt ko lo h w st x.e) H2 n' ∧ H' = H2.put kt (some (.arr 0 9 [keptN kw (pushF kw kt ko lo h w st x.e)]))) := by
  have hkfn := hs.lt
  have hkfw : kf ≠ kw := hs.nw
  have hkfk := hs.nk
  have hkf0 := hs.at'
  have hkft : kf ≠ kt := fun e => hkfk (.inl e)
  have hwr : IntKind.i64.wrap (st.older + 1) = st.older + 1 := by obtain ⟨h1, h2, h3, h4, h5, h6⟩ := hok; exact w64 (by omega) (by omega)
  have hx1 : ∀ o, x.ok (H.put n o) (n + 1) := fun o => hx.mono (fun k hk => Heap.put_ne _ _ (by omega)) (by omega)
  have hs1 : ∀ o, StrOK (keptTk kw kt ko lo h) (H.put n o) (n + 1) kf w st := fun o => ⟨⟨by have := hs.ah.kw; omega, fun k hk => by have := hs.ah.keys k hk; omega, (Heap.put_ne _ _ (by have := hs.ah.kw; omega)).trans hs.ah.walk, (keptTk kw kt ko lo h).ext st H _ n _ (by omega) (fun k hk _ => Heap.put_ne _ _ (by omega)) hs.ah.tk⟩, (Heap.put_ne _ _ (by omega)).trans hs.at', by omega, hs.nw, hs.nk⟩
  have hkf9 : (0 : Nat) = 0 := rfl
  have hk9 : (0 : Nat) = 0 := rfl
  refine acalls_of_awp Tryz.func93 rfl Tryz.ntmps93 (congrArg Array.toList Tryz.results93) (by simp) ?_
  simp only [go_sem]
  refine awp_reg zs [0, 3] fun K hK => ?_
  try simp only [go_sem, seval]
  refine hK _ _ _ ?_; clear hK K
  refine awp_drw rfl zs [0, 6, 7] [.m, .q, .q, .q, .w [], .m, .q, .q, .q, .q] (by kernel_rfl) (fun _ _ _ _ _ h => h) fun K hK => ?_
  try simp only [go_sem, seval]
  refine callK_useK (args' := [.loc kf 0 0 0 [0], lentAV x]) Tryz.func118 rfl rfl rfl (c_stream_push (keptTk kw kt ko lo h) KSt.ok (kept_tkOK kw kt ko lo h) w st x kf _ (n + 1) (hs1 _) (hx1 _) (fun k hk => ⟨(hxk k hk).1, fun hc => by rcases hc with hc | hc; exact (hxk k hk).2.1 hc; exact (hxk k hk).2.2 hc⟩) hfit hok hok1 hok2 hwk hwk2) ?_ ?_
  rotate_left
  · intro p H' n' h; cases h.1
  intro r H2 n2 ⟨hr2, hL⟩
  cases hr2
  try simp only [go_sem, seval]
  refine hK _ _ _ ?_; clear hK K
  refine awp_seq_k fun K1 hK1 => ?_
  refine awp_reg zs [0, 6, 7, 17] fun K hK => ?_
  try simp only [go_sem, seval]
  refine hK _ _ _ ?_; clear hK K
  refine awp_cnd (fun hb => ?_) (fun hb => ?_)
  ·skip
   have hne : (pushR w x.e).2 ≠ 0 := by simpa using hb
   refine awp_reg zs [4, 5] fun K hK => ?_
   try simp only [go_sem, seval]
   refine hK _ _ _ ?_; clear hK K
   refine awp_ret ?_
   try simp only [go_sem, seval]
   refine ⟨fun h9 => ?_, fun h9 => ?_⟩
   · first
     | exact absurd hne h9
     | (have hpw : pushW w x.e = w := by unfold pushW; have : (pushR w x.e).1 = false := pushR_err hne; rw [this]; rfl
        have hpt : pushT (keptTk kw kt ko lo h) w st x.e = st := by unfold pushT; have : (pushR w x.e).1 = false := pushR_err hne; rw [this]; rfl
        rw [hpw, hpt] at hL
        have hL9 := hL.up (H := H) (n := n) (by omega) (fun k hk _ _ => Heap.put_ne _ _ (by omega))
        first | exact hL9 | exact ⟨rfl, hL9⟩)
   · first
     | exact absurd h9 hne
     | (have hL8 := kept_oldL hL
        rw [← hpf] at hL8
        have hL9 := hL8.up (H := H) (n := n) (by omega) (fun k hk _ _ => Heap.put_ne _ _ (by omega))
        first | exact ⟨_, hL9, rfl⟩ | exact ⟨_, rfl, hL9, rfl⟩ | (refine ⟨_, hL9, ?_⟩; rw [hpf]; simp [put2, keptAV, keptO]; done) | (refine ⟨_, hL9, ?_⟩; rw [hpf]; rfl))
     | (rw [← hpf] at hL
        have hL9 := hL.up (H := H) (n := n) (by omega) (fun k hk _ _ => Heap.put_ne _ _ (by omega))
        first | exact ⟨H2, hL9, rfl⟩ | (rw [hne]; exact ⟨H2, rfl, hL9, rfl⟩) | exact ⟨H2, rfl, hL9, rfl⟩)
  ·skip
   have hne : (pushR w x.e).2 = 0 := by simpa using hb
   have hkf9 : H2 kf = _ := ((hL.rest kf (by omega) hkfw hkfk).trans ((Heap.put_ne _ _ (by omega)).trans hkf0))
   simp only [kept_strAV] at hkf9
   refine awp_skip ?_
   try simp only [go_sem, seval]
   refine hK1 _ _ _ ?_
   first | clear hK1 K1 | skip
   refine awp_seq_k fun K2 hK2 => ?_
   refine awp_reg zs [0, 20] fun K hK => ?_
   try simp only [go_sem, seval]
   refine hK _ _ _ ?_; clear hK K
   refine awp_cnd (fun hb => ?_) (fun hb => ?_)
   ·skip
    have h1 : (pushR w x.e).1 = false := by simpa using hb
    have hpt : pushT (keptTk kw kt ko lo h) w st x.e = st := by unfold pushT; rw [h1]; rfl
    have hpf : pushF kw kt ko lo h w st x.e = keptO st := by unfold pushF; rw [h1]; rfl
    rw [hpt] at hL
    obtain ⟨hlo2, htk2, xs, hxe, hko2, hm2⟩ := hL.tk
    have hk9 := htk2
    simp only [keptAV] at hk9
    refine awp_reg1 zs [0] fun K hK => ?_
    try simp only [go_sem, seval, hkf9, hk9, hwr]
    refine hK _ _ _ ?_; clear hK K
    try simp only [go_sem, seval]
    refine hK2 _ _ _ ?_
    first | clear hK2 K2 | skip
    refine awp_reg zs [4, 5] fun K hK => ?_
    try simp only [go_sem, seval]
    refine callK_use Tryz.func115 rfl rfl rfl ((f_out kw kt ko kf (pushF kw kt ko lo h w st x.e) (xs.map lentAV) _ n2 (by first | exact hkf9 | exact (Heap.put_ne _ _ hkft).trans hkf9) (by rw [hpf]; first | exact htk2 | exact Heap.put_same _ _ _) (by rw [hpf]; first | (rw [hko2, ← hxe]; simp; done) | (rw [Heap.put_ne _ _ (Ne.symm h.c), hko2, show (keptO st).out = st.out from rfl, ← hxe]; simp)) (by rw [hpf]; first | (rw [← hxe]; simp; done) | (rw [show (keptO st).out = st.out from rfl, ← hxe]; simp)) hkft (Ne.symm h.c))) ?_
    try simp only [go_sem, seval]
    refine hK _ _ _ ?_; clear hK K
    refine awp_ret ?_
    try simp only [go_sem, seval]
    refine ⟨fun h9 => ?_, fun h9 => ?_⟩
    · first
      | exact absurd hne h9
      | (have hpw : pushW w x.e = w := by unfold pushW; have : (pushR w x.e).1 = false := pushR_err hne; rw [this]; rfl
         have hpt : pushT (keptTk kw kt ko lo h) w st x.e = st := by unfold pushT; have : (pushR w x.e).1 = false := pushR_err hne; rw [this]; rfl
         rw [hpw, hpt] at hL
         have hL9 := hL.up (H := H) (n := n) (by omega) (fun k hk _ _ => Heap.put_ne _ _ (by omega))
         first | exact hL9 | exact ⟨rfl, hL9⟩)
    · first
      | exact absurd h9 hne
      | (have hL8 := kept_oldL hL
         rw [← hpf] at hL8
         have hL9 := hL8.up (H := H) (n := n) (by omega) (fun k hk _ _ => Heap.put_ne _ _ (by omega))
         first | exact ⟨_, hL9, rfl⟩ | exact ⟨_, rfl, hL9, rfl⟩ | (refine ⟨_, hL9, ?_⟩; rw [hpf]; simp [put2, keptAV, keptO]; done) | (refine ⟨_, hL9, ?_⟩; rw [hpf]; rfl))
      | (rw [← hpf] at hL
         have hL9 := hL.up (H := H) (n := n) (by omega) (fun k hk _ _ => Heap.put_ne _ _ (by omega))
         first | exact ⟨H2, hL9, rfl⟩ | (rw [hne]; exact ⟨H2, rfl, hL9, rfl⟩) | exact ⟨H2, rfl, hL9, rfl⟩)
   ·skip
    have h1 : (pushR w x.e).1 = true := by simpa using hb
    have hpf : pushF kw kt ko lo h w st x.e = pushT (keptTk kw kt ko lo h) w st x.e := by unfold pushF; rw [h1]; rfl
    obtain ⟨hlo2, htk2, xs, hxe, hko2, hm2⟩ := hL.tk
    have hk9 := htk2
    refine awp_skip ?_
    try simp only [go_sem, seval]
    refine hK2 _ _ _ ?_
    first | clear hK2 K2 | skip
    refine awp_reg zs [4, 5] fun K hK => ?_
    try simp only [go_sem, seval]
    refine callK_use Tryz.func115 rfl rfl rfl ((f_out kw kt ko kf (pushF kw kt ko lo h w st x.e) (xs.map lentAV) _ n2 (by first | exact hkf9 | exact (Heap.put_ne _ _ hkft).trans hkf9) (by rw [hpf]; first | exact htk2 | exact Heap.put_same _ _ _) (by rw [hpf]; first | (rw [hko2, ← hxe]; simp; done) | (rw [Heap.put_ne _ _ (Ne.symm h.c), hko2, show (keptO st).out = st.out from rfl, ← hxe]; simp)) (by rw [hpf]; first | (rw [← hxe]; simp; done) | (rw [show (keptO st).out = st.out from rfl, ← hxe]; simp)) hkft (Ne.symm h.c))) ?_
    try simp only [go_sem, seval]
    refine hK _ _ _ ?_; clear hK K
    refine awp_ret ?_
    try simp only [go_sem, seval]
    refine ⟨fun h9 => ?_, fun h9 => ?_⟩
    · first
      | exact absurd hne h9
      | (have hpw : pushW w x.e = w := by unfold pushW; have : (pushR w x.e).1 = false := pushR_err hne; rw [this]; rfl
         have hpt : pushT (keptTk kw kt ko lo h) w st x.e = st := by unfold pushT; have : (pushR w x.e).1 = false := pushR_err hne; rw [this]; rfl
         rw [hpw, hpt] at hL
         have hL9 := hL.up (H := H) (n := n) (by omega) (fun k hk _ _ => Heap.put_ne _ _ (by omega))
         first | exact hL9 | exact ⟨rfl, hL9⟩)
    · first
      | exact absurd h9 hne
      | (have hL8 := kept_oldL hL
         rw [← hpf] at hL8
         have hL9 := hL8.up (H := H) (n := n) (by omega) (fun k hk _ _ => Heap.put_ne _ _ (by omega))
         first | exact ⟨_, hL9, rfl⟩ | exact ⟨_, rfl, hL9, rfl⟩ | (refine ⟨_, hL9, ?_⟩; rw [hpf]; simp [put2, keptAV, keptO]; done) | (refine ⟨_, hL9, ?_⟩; rw [hpf]; rfl))
      | (rw [← hpf] at hL
         have hL9 := hL.up (H := H) (n := n) (by omega) (fun k hk _ _ => Heap.put_ne _ _ (by omega))
         first | exact ⟨H2, hL9, rfl⟩ | (rw [hne]; exact ⟨H2, rfl, hL9, rfl⟩) | exact ⟨H2, rfl, hL9, rfl⟩)
theorem f_Push (kw kt ko lo : Nat) (h : KSep kw kt ko lo) (w : Wlk) (st : KSt) (x : LEnt) (kf : Nat) (H : Heap) (n : Nat) (hs : StrOK (keptTk kw kt ko lo h) H n kf w st) (hx : x.ok H n) (hxk : ∀ k ∈ x.ks, k ≠ kw ∧ k ≠ kt ∧ k ≠ ko) (hfit : x.e.fits)
    (hok : KSt.ok st) (hok1 : KSt.ok (preT (keptTk kw kt ko lo h) w st x.e)) (hok2 : KSt.ok (nt1 (keptTk kw kt ko lo h) (preW w x.e) (preT (keptTk kw kt ko lo h) w st x.e) x.e)) (hwk : WOK w) (hwk2 : WOK (preW w x.e)) :
    ACalls Tryz.prog 93 [.loc kf 0 0 0 [], lentAV x] H n (FPost kw kt ko lo h kf w st x.e H n) := by
  refine (f_Push0 kw kt ko lo h w st x kf H n hs hx hxk hfit hok hok1 hok2 hwk hwk2).post_adopt fun res H1 n1 ⟨p1, p2⟩ => ?_
  by_cases h0 : (pushR w x.e).2 = 0
  · right
    obtain ⟨H2, hr, hL, rfl⟩ := p2 h0
    obtain ⟨hlo2, htk2, xs, hxe, hko2, hm2⟩ := hL.tk
    have hkw : kw < n := hs.ah.kw
    have hkt : kt < n := hs.ah.keys kt (.inl rfl)
    have hko : ko < n := hs.ah.keys ko (.inr rfl)
    have hle := hL.le
    have hc := h.c
    have ha := h.a
    have hb := h.b
    have hd := h.d
    have he := h.e
    have hf := h.f
    generalize hst2 : pushF kw kt ko lo h w st x.e = st2 at *
    have hG : ∀ k, k ≠ kt → k ≠ n1 → ∀ o o' o2, (((H2.put kt o).put n1 o').put kt o2) k = H2 k := fun k g1 g2 o o' o2 => (Heap.put_ne _ _ g1).trans ((Heap.put_ne _ _ g2).trans (Heap.put_ne _ _ g1))
    refine ⟨kt, 0, 9, [keptN kw st2], [keptAV kw n1 { st2 with out := [] }], 7, Heap.put_same _ _ _, ⟨Adp.agg ⟨.refl _ _, .refl _ _, Adp.nilsl _, .refl _ _, .refl _ _, trivial⟩, trivial⟩, fun hne => absurd h0 hne, fun _ => ?_⟩
    refine ⟨n1, n1 + 1, ⟨by omega, by omega, by omega, by omega, by omega, by omega⟩, xs, ?_, hle, by omega, by rw [hst2]; exact hxe, ?_, ?_, by omega, by omega, fun hin => by have := (hm2.in' hin).2; omega, ⟨?_, fun k hk => ?_, ?_, ?_⟩, fun k hk g1 g2 g3 => ?_⟩
    · have hl : st2.out.length = xs.length := by rw [← hxe]; simp
      rw [hr, hl]
    · rw [hG ko (Ne.symm hc) (by omega)]; exact hko2
    · exact hm2.mono (fun k g1 g2 => hG k (by omega) (by omega) _ _ _) (by omega)
    · show kw < n1 + 1; omega
    · rcases hk with rfl | rfl <;> omega
    · show _ = _
      rw [show (keptTk kw kt n1 (n1 + 1) _).kw = kw from rfl, hG kw ha (by omega)]; exact hL.walk
    · rw [hst2]
      exact ⟨Nat.le_refl _, Heap.put_same _ _ _, [], rfl, (Heap.put_ne _ _ (by omega)).trans (Heap.put_same _ _ _), MineL.nil _ _ _⟩
    · rw [hG k g2 (by omega)]; exact hL.rest k hk g1 (fun hh => by rcases hh with hh | hh; exact g2 hh; exact g3 hh)
  · left
    exact ⟨p1, fun h => absurd h h0⟩
def FEnd (kw kt ko lo : Nat) (h : KSep kw kt ko lo) (kf : Nat) (w : Wlk) (st : KSt) (H : Heap) (n : Nat) (res : ARes) (H' : Heap) (n' : Nat) : Prop :=
  ∃ (ko' lo' : Nat) (h' : KSep kw kt ko' lo') (xs : List LEnt), res = .val (.osl ko xs.length 0 xs.length) ∧ n ≤ ko' ∧ n ≤ lo' ∧ xs.map (·.e) = (closeT (keptTk kw kt ko lo h) w st : KSt).out ∧ H' ko = some (.arr xs.length 7 (xs.map lentAV)) ∧ MineL H' lo n' xs ∧ lo ≤ n' ∧ n ≤ n' ∧ ko' ∉ xs.flatMap LEnt.ks ∧
    Ahead (keptTk kw kt ko' lo' h') H' n' (freshW w) { (closeT (keptTk kw kt ko lo h) w st : KSt) with out := [] } ∧ ∀ k, k < n → k ≠ kw → k ≠ kt → k ≠ ko → H' k = H k
set_option maxHeartbeats 1600000 in
theorem f_End0 (kw kt ko lo : Nat) (h : KSep kw kt ko lo) (w : Wlk) (st : KSt) (kf : Nat) (H : Heap) (n : Nat) (hs : StrOK (keptTk kw kt ko lo h) H n kf w st) (hok : KSt.ok st) (hwk : WOK w) :
    ACalls Tryz.prog 86 [.loc kf 0 0 0 []] H n fun res H' n' =>
      ∃ (H2 : Heap), res = .val (.osl ko (closeT (keptTk kw kt ko lo h) w st : KSt).out.length 0 (closeT (keptTk kw kt ko lo h) w st : KSt).out.length) ∧ Rt.Left (keptTk kw kt ko lo h) H n (freshW w) (closeT (keptTk kw kt ko lo h) w st) H2 n' ∧ H' = H2.put kt (some (.arr 0 9 [keptN kw (closeT (keptTk kw kt ko lo h) w st : KSt)])) := by
  have hkfn := hs.lt
  have hkfw : kf ≠ kw := hs.nw
  have hkfk := hs.nk
  have hkf0 := hs.at'
  have hkft : kf ≠ kt := fun e => hkfk (.inl e)
  have hkf9 : (0 : Nat) = 0 := rfl
  have hk9 : (0 : Nat) = 0 := rfl
  refine acalls_of_awp Tryz.func86 rfl Tryz.ntmps86 (congrArg Array.toList Tryz.results86) (by simp) ?_
  simp only [go_sem]
  refine awp_reg zs [0] fun K hK => ?_
  try simp only [go_sem, seval]
  refine hK _ _ _ ?_; clear hK K
  refine awp_reg zs [0] fun K hK => ?_
  try simp only [go_sem, seval]
  refine callK_useK (args' := [.loc kf 0 0 0 [0]]) Tryz.func114 rfl rfl rfl (c_stream_fresh (keptTk kw kt ko lo h) KSt.ok (kept_tkOK kw kt ko lo h) w st kf H n hs hok hwk) ?_ ?_
  rotate_left
  · intro p H' n' h; cases h.1
  intro r H2 n2 ⟨hr2, hL⟩
  cases hr2
  obtain ⟨hlo2, htk2, xs, hxe, hko2, hm2⟩ := hL.tk
  have hkf9 := (hL.rest kf hkfn hkfw hkfk).trans hkf0
  simp only [kept_strAV] at hkf9
  have hk9 := htk2
  simp only [keptAV] at hk9
  refine hK _ _ _ ?_; clear hK K
  refine awp_reg zs [2] fun K hK => ?_
  try simp only [go_sem, seval]
  refine callK_use Tryz.func115 rfl rfl rfl ((f_out kw kt ko kf (closeT (keptTk kw kt ko lo h) w st : KSt) (xs.map lentAV) _ n2 ((hL.rest kf hkfn hkfw hkfk).trans hkf0) htk2 (by rw [hko2, ← hxe]; simp) (by rw [← hxe]; simp) hkft (Ne.symm h.c))) ?_
  try simp only [go_sem, seval]
  refine hK _ _ _ ?_; clear hK K
  refine awp_ret ?_
  try simp only [go_sem, seval]
  first | exact ⟨H2, hL, by simp [put2]⟩ | exact ⟨H2, hL, rfl⟩
theorem f_End (kw kt ko lo : Nat) (h : KSep kw kt ko lo) (w : Wlk) (st : KSt) (kf : Nat) (H : Heap) (n : Nat) (hs : StrOK (keptTk kw kt ko lo h) H n kf w st) (hok : KSt.ok st) (hwk : WOK w) :
    ACalls Tryz.prog 86 [.loc kf 0 0 0 []] H n (FEnd kw kt ko lo h kf w st H n) := by
  refine (f_End0 kw kt ko lo h w st kf H n hs hok hwk).post_adopt fun res H1 n1 ⟨H2, hr, hL, hH⟩ => ?_
  subst hH
  right
  obtain ⟨hlo2, htk2, xs, hxe, hko2, hm2⟩ := hL.tk
  have hkw : kw < n := hs.ah.kw
  have hkt : kt < n := hs.ah.keys kt (.inl rfl)
  have hko : ko < n := hs.ah.keys ko (.inr rfl)
  have hle := hL.le
  have hc := h.c
  have ha := h.a
  have hb := h.b
  have hd := h.d
  have he := h.e
  have hf := h.f
  generalize hst2 : (closeT (keptTk kw kt ko lo h) w st : KSt) = st2 at *
  have hG : ∀ k, k ≠ kt → k ≠ n1 → ∀ o o' o2, (((H2.put kt o).put n1 o').put kt o2) k = H2 k := fun k g1 g2 o o' o2 => (Heap.put_ne _ _ g1).trans ((Heap.put_ne _ _ g2).trans (Heap.put_ne _ _ g1))
  refine ⟨kt, 0, 9, [keptN kw st2], [keptAV kw n1 { st2 with out := [] }], 7, Heap.put_same _ _ _, ⟨Adp.agg ⟨.refl _ _, .refl _ _, Adp.nilsl _, .refl _ _, .refl _ _, trivial⟩, trivial⟩, ?_⟩
  refine ⟨n1, n1 + 1, ⟨by omega, by omega, by omega, by omega, by omega, by omega⟩, xs, ?_, hle, by omega, by rw [hst2]; exact hxe, ?_, ?_, by omega, by omega, fun hin => by have := (hm2.in' hin).2; omega, ⟨?_, fun k hk => ?_, ?_, ?_⟩, fun k hk g1 g2 g3 => ?_⟩
  · have hl : st2.out.length = xs.length := by rw [← hxe]; simp
    rw [hr, hl]
  · rw [hG ko (Ne.symm hc) (by omega)]; exact hko2
  · exact hm2.mono (fun k g1 g2 => hG k (by omega) (by omega) _ _ _) (by omega)
  · show kw < n1 + 1; omega
  · rcases hk with rfl | rfl <;> omega
  · show _ = _
    rw [show (keptTk kw kt n1 (n1 + 1) _).kw = kw from rfl, hG kw ha (by omega)]; exact hL.walk
  · rw [hst2]
    exact ⟨Nat.le_refl _, Heap.put_same _ _ _, [], rfl, (Heap.put_ne _ _ (by omega)).trans (Heap.put_same _ _ _), MineL.nil _ _ _⟩
  · rw [hG k g2 (by omega)]; exact hL.rest k hk g1 (fun hh => by rcases hh with hh | hh; exact g2 hh; exact g3 hh)
def FNew (s : List Fml) (clock low : Int) (mj : Bool) (H : Heap) (n : Nat) (res : ARes) (H' : Heap) (n' : Nat) : Prop :=
  n ≤ n' ∧ (∀ k, k < n → H' k = H k) ∧ ((boundsE s clock [low] 1 ≠ 0 → res = .val (.tup [.nilp, .int .i64 (boundsE s clock [low] 1)])) ∧
    (boundsE s clock [low] 1 = 0 → ∃ (kf kw kt ko lo : Nat) (h : KSep kw kt ko lo), res = .val (.tup [.loc kf 0 0 0 [], .int .i64 0]) ∧ n ≤ kf ∧ n ≤ kw ∧ n ≤ kt ∧ n ≤ ko ∧ kf ≠ ko ∧ StrOK (keptTk kw kt ko lo h) H' n' kf (wlk0 s clock) (kst0 mj low)))
theorem c_retain_NewFilter (s : List Fml) (hs : s.length ≤ 2000000) (clock low : Int) (mj : Bool) (H : Heap) (n : Nat) :
    ACalls Tryz.prog 85 [schAV s, .int .i64 clock, .bool mj, .int .i64 low] H n (FNew s clock low mj H n) := by
  refine acalls_of_awp Tryz.func85 rfl Tryz.ntmps85 (congrArg Array.toList Tryz.results85) (by simp) ?_
  simp only [go_sem]
  refine awp_rq zs [1, 2, 3, 4] ?_
  refine awp_seq_k fun K1 hK1 => ?_
  refine awp_reg zs [1, 2, 3, 4, 10] fun K hK => ?_
  try simp only [go_sem, seval]
  repeat (first | (refine And.intro ?_ ?_; · first | exact ⟨rfl, by simp [AV.sz, AV.memOK]⟩) | refine peel ?_)
  refine callK_use Tryz.func72 rfl rfl rfl ((c_retain_bounds s clock [low] 1 (by simp) _ _)) ?_
  try simp only [go_sem, seval]
  repeat (first | (refine And.intro ?_ ?_; · first | exact ⟨rfl, by simp [AV.sz, AV.memOK]⟩) | refine peel ?_)
  refine hK _ _ _ ?_; clear hK K
  refine awp_rq zs [1, 2, 3, 4, 10, 19] ?_
  refine awp_cnd (fun hb => ?_) (fun hb => ?_)
  ·skip
   have hne : boundsE s clock [low] 1 ≠ 0 := by simpa using hb
   refine awp_rq zs [8, 9] ?_
   refine awp_ret ?_
   try simp only [go_sem, seval]
   first
   | exact ⟨by omega, fun k hk => Heap.put_ne _ _ (by omega), fun _ => rfl, fun h => absurd h hne⟩
   | (refine ⟨by omega, fun k hk => (Heap.put_ne _ _ (by omega)).trans ((hlow k (by omega)).trans (Heap.put_ne _ _ (by omega))), fun h => absurd hne h, fun _ => ⟨n2, kw, kt, ko, lo, hh, rfl, by omega, by omega, by omega, by omega, ?_, ?_⟩⟩
      · have := hah.keys ko (.inr rfl); omega
      · have hk1 := hah.kw
        have hk2 := hah.keys
        exact ⟨⟨Nat.lt_succ_of_lt hk1, fun k hk => Nat.lt_succ_of_lt (hk2 k hk), (Heap.put_ne _ _ (Nat.ne_of_lt hk1)).trans hah.walk, (keptTk kw kt ko lo hh).ext _ _ _ _ _ (Nat.le_succ _) (fun k hk _ => Heap.put_ne _ _ (Nat.ne_of_lt hk)) hah.tk⟩, Heap.put_same _ _ _, Nat.lt_succ_self _, fun e => by rw [e] at hk1; exact absurd hk1 (Nat.lt_irrefl _), fun hk => absurd (hk2 _ hk) (Nat.lt_irrefl _)⟩)
  ·skip
   have hne : boundsE s clock [low] 1 = 0 := by simpa using hb
   refine awp_skip ?_
   try simp only [go_sem, seval]
   refine hK1 _ _ _ ?_
   first | clear hK1 K1 | skip
   refine awp_reg zs [11, 12] fun K hK => ?_
   try simp only [go_sem, seval]
   refine callK_use Tryz.func113 rfl rfl rfl ((c_retain_schema s hs _ _)) ?_
   try simp only [go_sem, seval]
   refine callK_useK (args' := [schAV s, .int .i64 clock, .bool mj, .int .i64 low]) Tryz.func45 rfl rfl rfl (c_retain_keeping s clock low mj _ (n + 1)) ?_ ?_
   rotate_left
   · intro p H' n' h; obtain ⟨kw, kt, ko, lo, hh, hres, _⟩ := h; cases hres
   rintro r H2 n2 ⟨kw, kt, ko, lo, hh, hres, hkw, hkt, hko, hn2, hlo2, hah, hlow⟩
   cases hres
   try simp only [go_sem, seval]
   refine hK _ _ _ ?_; clear hK K
   refine awp_rq zs [8, 9] ?_
   refine awp_ret ?_
   try simp only [go_sem, seval]
   first
   | exact ⟨by omega, fun k hk => Heap.put_ne _ _ (by omega), fun _ => rfl, fun h => absurd h hne⟩
   | (refine ⟨by omega, fun k hk => (Heap.put_ne _ _ (by omega)).trans ((hlow k (by omega)).trans (Heap.put_ne _ _ (by omega))), fun h => absurd hne h, fun _ => ⟨n2, kw, kt, ko, lo, hh, rfl, by omega, by omega, by omega, by omega, ?_, ?_⟩⟩
      · have := hah.keys ko (.inr rfl); omega
      · have hk1 := hah.kw
        have hk2 := hah.keys
        exact ⟨⟨Nat.lt_succ_of_lt hk1, fun k hk => Nat.lt_succ_of_lt (hk2 k hk), (Heap.put_ne _ _ (Nat.ne_of_lt hk1)).trans hah.walk, (keptTk kw kt ko lo hh).ext _ _ _ _ _ (Nat.le_succ _) (fun k hk _ => Heap.put_ne _ _ (Nat.ne_of_lt hk)) hah.tk⟩, Heap.put_same _ _ _, Nat.lt_succ_self _, fun e => by rw [e] at hk1; exact absurd hk1 (Nat.lt_irrefl _), fun hk => absurd (hk2 _ hk) (Nat.lt_irrefl _)⟩)
end Go.Proofs.YtijhkfhflpmajaaGreat
namespace Go.Proofs.YtijhkfhflpmajaaGreat
open Go Go.Sx Go.Rt Go.Proofs
theorem c_law_longer (k ver l : Nat) (X : List AV) (hX : X.length = l) (hl : l ≤ 100000000) (H : Heap) (n : Nat) (hk : k < n) (hH : H k = some (.arr ver 1 X)) :
    ACalls Tryz.prog 117 [.osl k ver 0 l] H n fun res H' n' => res = .val (.bool true) ∧ n ≤ n' ∧ (∃ Y, H' k = some (.arr ver 1 (X ++ Y)) ∧ ∀ y ∈ Y, y.sz = 1) ∧ ∀ j, j < n → j ≠ k → H' j = H j := by
  have hw70 : IntKind.i64.wrap ((l : Int) + 70) = (l : Int) + 70 := w64 (by omega) (by omega)
  refine acalls_of_awp Tryz.func117 rfl Tryz.ntmps117 (congrArg Array.toList Tryz.results117) (by simp) ?_
  simp only [go_sem]
  refine awp_rq zs [0] ?_
  refine awp_rq zs [0, 3] ?_
  refine awp_seq_k fun K1 hK1 => ?_
  refine awp_rq zs [0, 3, 4] ?_
  refine awp_block ?_
  refine awp_loop (fun T' H' n' => ∃ (i gk gv : Nat) (Y : List AV), i ≤ 70 ∧ T' = tl [(0, .osl k ver 0 l), (3, .osl gk gv 0 (l + i)), (4, .int .i64 i)] ∧ n ≤ n' ∧ gk < n' ∧ (gk = k ∨ n ≤ gk) ∧ (∃ Z, H' k = some (.arr ver 1 (X ++ Z)) ∧ ∀ y ∈ Z, y.sz = 1) ∧ H' gk = some (.arr gv 1 (X ++ Y)) ∧ Y.length = i ∧ (∀ y ∈ Y, y.sz = 1) ∧ ∀ j, j < n → j ≠ k → H' j = H j) (fun T' _ _ => 70 - iv (T' 4)) ?_ ?_
  ·skip
   exact ⟨0, k, ver, [], by omega, rfl, Nat.le_refl _, hk, .inl rfl, ⟨[], by simpa using hH, by simp⟩, by simpa using hH, rfl, by simp, fun j _ _ => rfl⟩
  intro T1 H1 n1
  rintro ⟨i, gk, gv, Y, hi, rfl, hn, hgk, hor, ⟨Z, hk1, hZ⟩, hg1, hY, hYs, hrest⟩
  refine awp_seq_k fun K2 hK2 => ?_
  refine awp_rq zs [0, 3, 4, 7] ?_
  refine awp_cnd (fun hb => ?_) (fun hb => ?_)
  ·skip
   have hlt : i < 70 := by have := of_decide_eq_true hb; omega
   refine awp_skip ?_
   try simp only [go_sem, seval]
   refine hK2 _ _ _ ?_
   first | clear hK2 K2 | skip
   refine awp_seq_k fun K3 hK3 => ?_
   refine awp_block ?_
   refine awp_reg_app1 zs [0, 3, 4] 2 rfl (by first | trivial | (show _ < _; decide)) fun K hK => ?_
   try simp only [go_sem, seval, hg1]
   repeat (first | (refine And.intro ?_ ?_; · first | exact ⟨rfl, by simp [AV.sz, AV.memOK]⟩ | exact ⟨by simp; omega, .inr trivial, by omega, by omega⟩) | refine peel ?_)
   refine AppK.all hgk ?_ hg1
   intro gk2 gv2 H2 n2 hn2 hgk2 hor2 hg2 hk2 hrest2
   try simp only [go_sem, seval]
   repeat (first | (refine And.intro ?_ ?_; · first | exact ⟨rfl, by simp [AV.sz, AV.memOK]⟩ | exact ⟨by simp; omega, .inr trivial, by omega, by omega⟩) | refine peel ?_)
   refine hK _ _ _ ?_; clear hK K
   try simp only [go_sem, seval]
   refine hK3 _ _ _ ?_
   first | clear hK3 K3 | skip
   refine awp_reg1 zs [0, 3, 4] fun K hK => ?_
   try simp only [go_sem, seval]
   refine hK _ _ _ ?_; clear hK K
   try simp only [go_sem, seval]
   have hold : ∃ Z, H2 k = some (.arr ver 1 (X ++ Z)) ∧ ∀ y ∈ Z, y.sz = 1 := by
     by_cases e : k = gk
     · subst e
       rw [hk1] at hg1
       simp only [Option.some.injEq, AObj.arr.injEq, true_and, List.append_cancel_left_eq] at hg1
       obtain ⟨rfl, rfl⟩ := hg1
       rcases hk2 with h9 | h9
       · exact ⟨Z, h9, hZ⟩
       · exact ⟨Z ++ [.int .u8 80], by rw [h9, List.append_assoc], fun y hy => by rcases List.mem_append.1 hy with hy | hy; exact hZ y hy; rw [List.mem_singleton.1 hy]; rfl⟩
     · exact ⟨Z, (hrest2 k (by omega) e).trans hk1, hZ⟩
   refine ⟨⟨i + 1, gk2, gv2, Y ++ [.int .u8 80], by omega, by rw [w1 (by omega)]; simp [Nat.add_assoc], by omega, hgk2, ?_, hold, by rw [hg2, List.append_assoc], by simp [hY], fun y hy => by rcases List.mem_append.1 hy with hy | hy; exact hYs y hy; rw [List.mem_singleton.1 hy]; rfl, fun j h1 h2 => ?_⟩, by rw [w1 (by omega)]; simp; omega⟩
   · rcases hor2 with e | e
     · rw [e]; exact hor
     · exact .inr (by omega)
   · by_cases e : j = gk
     · rcases hor with e2 | e2
       · exact absurd (e.trans e2) h2
       · omega
     · rw [hrest2 j (by omega) e]; exact hrest j h1 h2
  ·skip
   have hge : i = 70 := by have := of_decide_eq_false hb; omega
   refine awp_exit ?_
   try simp only [go_sem, seval]
   refine hK1 _ _ _ ?_
   first | clear hK1 K1 | skip
   refine awp_reg zs [2] fun K hK => ?_
   try simp only [go_sem, seval, hw70]
   refine hK _ _ _ ?_; clear hK K
   refine awp_ret ?_
   try simp only [go_sem, seval]
   subst hge
   refine ⟨by simp, hn, ⟨Z, hk1, hZ⟩, hrest⟩
end Go.Proofs.YtijhkfhflpmajaaGreat