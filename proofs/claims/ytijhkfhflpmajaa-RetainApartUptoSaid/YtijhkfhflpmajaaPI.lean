/- Own layer: the walks through those who take what the walk decides: shown. Of the program; no condition. -/
import Derived.Test.YtijhkfhflpmajaaPH
import Derived.Test.YtijhkfhflpmajaaPD
import Derived.ChangeArms
import Derived.OpenShut
import Derived.ChangeOld
import Derived.JoinedCond
import Derived.WalkKit
import Derived.ProofKit
import Derived.Test.YtijhkfhflpmajaaRows
set_option linter.unusedSimpArgs false
set_option linter.unusedVariables false
namespace Go.Proofs.Ytijhkfhflpmajaa
open Go Go.Sx Go.Rt Go.Proofs
def SSt.ok (s : SSt) : Prop := 0 ≤ s.count ∧ s.count + s.out.length ≤ 1000000000000
def shownAV (kw ko : Nat) (s : SSt) : AV := .agg [.int .i64 s.t, .int .i64 s.n, .osl ko s.out.length 0 s.out.length, .int .i64 s.count, entAV s.last, .loc kw 0 0 0 []]
def shownTk (kw kt ko lo : Nat) (h : KSep kw kt ko lo) : Tk Try.prog where
  σ := SSt
  kw := kw
  recv := .loc kt 0 0 0 []
  g := 70
  o := 71
  m := 72
  fg := ⟨_, Try.func70, rfl, rfl⟩
  fo := ⟨_, Try.func71, rfl, rfl⟩
  fm := ⟨_, Try.func72, rfl, rfl⟩
  keys := fun k => k = kt ∨ k = ko
  kwn := by simp [h.a, h.b]
  holds := fun s H n => lo ≤ n ∧ H kt = some (.arr 0 12 [shownAV kw ko s]) ∧ outAt H n ko lo s.out
  ext := fun s H H' n n' hn hk ⟨a, c, d⟩ => ⟨by omega, (hk kt (Nat.lt_of_lt_of_le h.e a) (Ne.symm h.a)).trans c, d.mono (hk ko (Nat.lt_of_lt_of_le h.f a) (Ne.symm h.b)) (fun k h1 h2 => hk k h2 (by have := h.d; omega)) hn⟩
  grp := shownG
  old := id
  mrk := fun st _ _ => st
section
variable {kw kt ko lo : Nat} {h : KSep kw kt ko lo} {w : Wlk} {H H1 : Heap} {n n1 : Nat}
theorem shown_left (hlo : lo ≤ n) (st' : SSt) (hn : n ≤ n1) (hw : H1 kw = some (.arr 0 25 [walkAV (shownTk kw kt ko lo h) w])) (hto : outAt H1 n1 ko lo st'.out)
    (hrest : ∀ k, k < n → k ≠ kw → k ≠ kt → k ≠ ko → H1 k = H k) : LeftU (shownTk kw kt ko lo h) H n w st' (.val (.tup [])) (H1.put kt (some (.arr 0 12 [shownAV kw ko st']))) n1 :=
  ⟨rfl, hn, (Heap.put_ne _ _ h.a).trans hw, ⟨by omega, by simp [Heap.put], hto.mono (Heap.put_ne _ _ (Ne.symm h.c)) (fun k h1 h2 => Heap.put_ne _ _ (by have := h.e; omega)) (Nat.le_refl _)⟩, fun k hk h1 h2 => by
    have h3 : k ≠ kt := fun e => h2 (.inl e)
    have h4 : k ≠ ko := fun e => h2 (.inr e)
    exact (Heap.put_ne _ _ h3).trans (hrest k hk h1 h3 h4)⟩
theorem shown_app (hlo : lo ≤ n) (st : SSt) (c : Int) (l' : Ent) (xs : List LEnt) (x : LEnt) (hxe : xs.map (·.e) = st.out) (hm : MineL H lo n xs) (hx : x.mine H1 n n1) (hn : n ≤ n1) (hw : H1 kw = some (.arr 0 25 [walkAV (shownTk kw kt ko lo h) w]))
    (hrest : ∀ k, k < n → k ≠ kt → H1 k = H k) :
    LeftU (shownTk kw kt ko lo h) H n w { st with count := c, last := l', out := st.out ++ [x.e] } (.val (.tup []))
      ((H1.put ko (some (.arr (st.out.length + 1) 7 (List.take st.out.length (xs.map lentAV) ++ [lentAV x])))).put kt (some (.arr 0 12 [.agg [.int .i64 st.t, .int .i64 st.n, .osl ko (st.out.length + 1) 0 (st.out.length + 1), .int .i64 c, entAV l', .loc kw 0 0 0 []]]))) n1 := by
  have hl : xs.length = st.out.length := by rw [← hxe]; simp
  have := shown_left (h := h) (w := w) (H := H) (H1 := H1.put ko (some (.arr (st.out.length + 1) 7 (List.take st.out.length (xs.map lentAV) ++ [lentAV x])))) (n1 := n1) hlo { st with count := c, last := l', out := st.out ++ [x.e] } hn
    ((Heap.put_ne _ _ h.b).trans hw) ⟨xs ++ [x], by simp [hxe], by simp [Heap.put, hl, List.take_of_length_le], ((hm.mono (fun k h1 h2 => hrest k h2 (by have := h.e; omega)) (Nat.le_refl _)).snoc hx hlo hn).mono (fun k h1 h2 => Heap.put_ne _ _ (by have := h.f; omega)) (Nat.le_refl _)⟩ (fun k hk h1 h2 h3 => (Heap.put_ne _ _ h3).trans (hrest k hk h2))
  simpa [shownAV] using this
theorem shown_stay (hlo : lo ≤ n) (st : SSt) (hn : n ≤ n1) (hw : H1 kw = some (.arr 0 25 [walkAV (shownTk kw kt ko lo h) w])) (htk : H1 kt = some (.arr 0 12 [shownAV kw ko st])) (hto : outAt H1 n1 ko lo st.out)
    (hrest : ∀ k, k < n → k ≠ kw → k ≠ kt → k ≠ ko → H1 k = H k) : LeftU (shownTk kw kt ko lo h) H n w st (.val (.tup [])) H1 n1 :=
  ⟨rfl, hn, hw, ⟨by omega, htk, hto⟩, fun k hk h1 h2 => hrest k hk h1 (fun e => h2 (.inl e)) (fun e => h2 (.inr e))⟩
end
theorem shown_older (kw kt ko lo : Nat) (h : KSep kw kt ko lo) (w : Wlk) (st : SSt) (H : Heap) (n : Nat) (ha : Ahead (shownTk kw kt ko lo h) H n w st) :
    ACalls Try.prog 71 [.loc kt 0 0 0 []] H n (LeftU (shownTk kw kt ko lo h) H n w st) := by
  obtain ⟨hkw, hkeys, hw, hlo, htk, hto⟩ := ha
  refine acalls_of_awp Try.func71 rfl Try.ntmps71 (congrArg Array.toList Try.results71) (by simp) ?_
  simp only [go_sem]
  refine awp_skip ?_
  try simp only [go_sem, seval]
  exact shown_stay hlo st (Nat.le_refl _) hw htk hto (fun k _ _ _ _ => rfl)
theorem shown_mark (kw kt ko lo : Nat) (h : KSep kw kt ko lo) (w : Wlk) (st : SSt) (e : Ent) (b : Bool) (H : Heap) (n : Nat) (ha : Ahead (shownTk kw kt ko lo h) H n w st) :
    ACalls Try.prog 72 [.loc kt 0 0 0 [], entAV e, .bool b] H n (LeftU (shownTk kw kt ko lo h) H n w st) := by
  obtain ⟨hkw, hkeys, hw, hlo, htk, hto⟩ := ha
  have hkt : kt < n := hkeys kt (.inl rfl)
  have hko : ko < n := hkeys ko (.inr rfl)
  have hkw' : kw < n := hkw
  refine acalls_of_awp Try.func72 rfl Try.ntmps72 (congrArg Array.toList Try.results72) (by simp) ?_
  simp only [go_sem]
  refine awp_reg1 zs [] fun K hK => ?_
  try simp only [go_sem, seval]
  repeat refine peel ?_
  refine hK _ _ _ ?_; clear hK K
  try simp only [go_sem, seval]
  try simp only [go_sem, seval]
  exact shown_stay hlo st (by omega) ((Heap.put_ne _ _ (by omega)).trans hw) ((Heap.put_ne _ _ (by omega)).trans htk) (hto.mono (Heap.put_ne _ _ (by omega)) (fun k _ _ => Heap.put_ne _ _ (by omega)) (by omega)) (fun k hk _ _ _ => Heap.put_ne _ _ (by omega))
theorem shown_group (kw kt ko lo : Nat) (h : KSep kw kt ko lo) (w : Wlk) (st : SSt) (d : Dec) (H : Heap) (n : Nat) (ha : Ahead (shownTk kw kt ko lo h) H n w st) (hok : SSt.ok st) (hf0 : 0 ≤ d.e.fam) (hf1 : d.e.fam < w.s.length) (he : d.e.fits) :
    ACalls Try.prog 70 [.loc kt 0 0 0 [], decAV d] H n (LeftU (shownTk kw kt ko lo h) H n w (shownG w.s st d)) := by
  obtain ⟨hkw, hkeys, hw, hlo, htk, hto0⟩ := ha
  obtain ⟨xs, hxe, hto, hm⟩ := id hto0
  have hxl : xs.length = st.out.length := by rw [← hxe]; simp
  rw [hxl] at hto
  have hkt : kt < n := hkeys kt (.inl rfl)
  have hko : ko < n := hkeys ko (.inr rfl)
  have hkw' : kw < n := hkw
  obtain ⟨k1, k2⟩ := hok
  have ht := htk
  have hww := hw
  simp only [shownAV] at ht
  simp only [walkAV, tkAV] at hww
  have hww : H kw = _ := hww
  have hlen : (st.out.length + 1) * 104 ≤ 140737488355328 := by omega
  have q1 : (kt = n) = False := by simp; omega
  have q2 : (ko = n) = False := by simp; omega
  have q3 : (n = kt) = False := by simp; omega
  have q4 : (n = ko) = False := by simp; omega
  have q5 : (kt = ko) = False := by simp [h.c]
  have q6 : (ko = kt) = False := by simp [Ne.symm h.c]
  have q7 : (kw = n) = False := by simp; omega
  have r1 : (0 : Nat) = 0 := rfl
  have r2 : (0 : Nat) = 0 := rfl
  have hnth : nth (w.s.map famAV) d.e.fam.toNat = famAV (famAt w.s d.e.fam) := nth_map famAV _ _ (by omega)
  refine acalls_of_awp Try.func70 rfl Try.ntmps70 (congrArg Array.toList Try.results70) (by simp) ?_
  simp only [go_sem]
  refine awp_reg zs [0, 3] fun K hK => ?_
  try simp only [go_sem, seval, ht, hto, hww, q1, q2, q3, q4, q5, q6, q7, hnth, r1, r2]
  repeat refine peel ?_
  refine hK _ _ _ ?_; clear hK K
  refine awp_seq_k fun K1 hK1 => ?_
  refine awp_drw rfl zs [0, 3, 39] [.q, .q, .q, .m, .q, .q, .m, .q, .q, .q, .q, .q, .q, .q, .q, .q, .q, .q, .q, .q, .q, .q, .m, .q, .q, .q, .m, .q, .q, .q, .m, .q, .q, .q, .q, .q] (by kernel_rfl) (fun _ _ _ _ _ h => h) fun K hK => ?_
  try simp only [go_sem, seval, ht, hto, hww, q1, q2, q3, q4, q5, q6, q7, hnth, r1, r2]
  repeat refine peel ?_
  refine hK _ _ _ ?_; clear hK K
  refine awp_cnd (fun hb => ?_) (fun hb => ?_)
  ·skip
   have c1 : unseen w.s st d = true := hb
   have hG : shownG w.s st d = st := by unfold shownG; rw [if_pos c1]
   refine awp_ret ?_
   try simp only [go_sem, seval, ht, hto, hww, q1, q2, q3, q4, q5, q6, q7, hnth, r1, r2]
   have g1 : ∀ (o : Option AObj), (H.put n o) kw = H kw := fun o => Heap.put_ne _ _ (by omega)
   have g2 : ∀ (o : Option AObj) k, k < n → (H.put n o) k = H k := fun o k hk => Heap.put_ne _ _ (by omega)
   have g3 : ∀ (o o' : Option AObj) k, k < n → k ≠ kt → ((H.put n o).put kt o') k = H k := fun o o' k hk h1 => (Heap.put_ne _ _ h1).trans (g2 _ _ hk)
   have g5 : ∀ (o : Option AObj), outAt (H.put n o) (n + 1) ko lo st.out := fun o => hto0.mono (g2 _ ko hko) (fun k _ h2 => g2 _ k h2) (by omega)
   rw [hG]
   try rw [c2]
   first
   | exact shown_stay hlo st (by omega) ((g1 _).trans hw) ((g2 _ kt hkt).trans htk) (g5 _) (fun k hk _ _ _ => g2 _ k hk)
   | exact shown_left hlo { st with count := 0 } (by omega) ((g1 _).trans hw) (g5 _) (fun k hk _ _ _ => g2 _ k hk)
   | (rw [← hxe2]; exact shown_app hlo st (0 + 1) x.e xs x hxe hm (hmx.low (by omega)) (by omega) ((hlow kw (by omega)).trans ((g3 _ _ kw hkw' h.a).trans hw)) (fun k hk h1 => (hlow k (by omega)).trans (g3 _ _ k hk h1)))
   | (rw [← hxe2]; exact shown_app hlo st (st.count + 1) x.e xs x hxe hm (hmx.low (by omega)) (by omega) ((hlow kw (by omega)).trans ((g3 _ _ kw hkw' h.a).trans hw)) (fun k hk h1 => (hlow k (by omega)).trans (g3 _ _ k hk h1)))
  ·skip
   have c1 : ¬ unseen w.s st d = true := by rw [Bool.not_eq_true]; exact hb
   refine awp_skip ?_
   try simp only [go_sem, seval, ht, hto, hww, q1, q2, q3, q4, q5, q6, q7, hnth, r1, r2]
   refine hK1 _ _ _ ?_
   first | clear hK1 K1 | skip
   refine awp_seq_k fun K2 hK2 => ?_
   refine awp_drw rfl zs [0, 3, 54] [.m, .q, .q, .q, .q, .m, .m, .q, .q, .q, .q, .q, .c, .q, .q] (by kernel_rfl) (fun _ _ _ _ _ h => h) fun K hK => ?_
   try simp only [go_sem, seval, ht, hto, hww, q1, q2, q3, q4, q5, q6, q7, hnth, r1, r2]
   repeat refine peel ?_
   refine callQG_use Try.func76 rfl rfl rfl (fun _ n => (c_retain_sameCol st.last d.e _ _)) ?_
   try simp only [go_sem, seval, ht, hto, hww, q1, q2, q3, q4, q5, q6, q7, hnth, r1, r2]
   repeat refine peel ?_
   refine hK _ _ _ ?_; clear hK K
   refine awp_cnd (fun hb => ?_) (fun hb => ?_)
   ·skip
    have c2 : cnt1 st d = 0 := by unfold cnt1; rw [if_pos hb]
    have hwr : IntKind.i64.wrap (0 + 1) = 0 + 1 := rfl
    refine awp_reg1 zs [0, 3] fun K hK => ?_
    try simp only [go_sem, seval, ht, hto, hww, q1, q2, q3, q4, q5, q6, q7, hnth, r1, r2]
    repeat refine peel ?_
    refine hK _ _ _ ?_; clear hK K
    try simp only [go_sem, seval, ht, hto, hww, q1, q2, q3, q4, q5, q6, q7, hnth, r1, r2]
    refine hK2 _ _ _ ?_
    first | clear hK2 K2 | skip
    refine awp_drw rfl zs [0, 3, 66] [.m, .q, .q, .q, .m, .q, .q, .q, .q] (by kernel_rfl) (fun _ _ _ _ _ h => h) fun K hK => ?_
    try simp only [go_sem, seval, ht, hto, hww, q1, q2, q3, q4, q5, q6, q7, hnth, r1, r2]
    repeat refine peel ?_
    refine hK _ _ _ ?_; clear hK K
    refine awp_cnd (fun hb => ?_) (fun hb => ?_)
    ·skip
     have c3 : cnt1 st d < st.n := by rw [c2]; simpa using hb
     have hG : shownG w.s st d = { st with count := cnt1 st d + 1, last := d.e, out := st.out ++ [d.e] } := by unfold shownG; rw [if_neg c1, if_pos c3]
     refine awp_drw rfl zs [0, 3] [.m, .m, .m, .q, .q, .q, .q, .q, .q, .q, .q, .w [7, 8], .q, .q, .w []] (by kernel_rfl) (fun _ _ _ _ _ h => h) fun K hK => ?_
     try simp only [go_sem, seval, ht, hto, hww, q1, q2, q3, q4, q5, q6, q7, hnth, r1, r2, hwr]
     repeat refine peel ?_
     refine hK _ _ _ ?_; clear hK K
     refine awp_drp1 rfl zs [] [.m, .m, .q, .q, .q, .q, .q, .w [2, 3, 4], .q, .w [], .q, .q, .w []] [0, 1, 2, 3, 4, 5, 6, 7, 8, 9, 10, 11, 12] [0, 1, 2, 3, 4, 5, 6, 7, 8, 9, 10, 11, 12] (by kernel_rfl) (fun _ _ _ _ _ h => h) fun K hK => ?_
     try simp only [go_sem, seval, ht, hto, hww, q1, q2, q3, q4, q5, q6, q7, hnth, r1, r2]
     repeat (first | (refine And.intro ?_ ?_; · first | exact ⟨rfl, by simp [AV.sz, AV.szs, AV.memOK, lentAV, Lp.av]⟩ | (simp; omega)) | refine peel ?_)
     refine callK_useK (args' := [entAV d.e]) Try.func67 rfl rfl rfl (o_retain_copied d.e he _ _) ?_ ?_
     rotate_left
     · intro p H' n' h; obtain ⟨x, hx, _⟩ := h; cases hx
     rintro r H2 n2 ⟨x, hr2, hxe2, hn2, hmx, hlow⟩
     cases hr2
     have r1 := (hlow kt (by omega)).trans (Heap.put_same _ _ _)
     have r2 := (hlow ko (by omega)).trans ((Heap.put_ne _ _ (Ne.symm h.c)).trans ((Heap.put_ne _ _ (by omega)).trans hto))
     try simp only [go_sem, seval, ht, hto, hww, q1, q2, q3, q4, q5, q6, q7, hnth, r1, r2]
     repeat (first | (refine And.intro ?_ ?_; · first | exact ⟨rfl, by simp [AV.sz, AV.szs, AV.memOK, lentAV, Lp.av]⟩ | (simp; omega)) | refine peel ?_)
     refine hK _ _ _ ?_; clear hK K
     try simp only [go_sem, seval, ht, hto, hww, q1, q2, q3, q4, q5, q6, q7, hnth, r1, r2]
     try simp only [go_sem, seval, ht, hto, hww, q1, q2, q3, q4, q5, q6, q7, hnth, r1, r2]
     have g1 : ∀ (o : Option AObj), (H.put n o) kw = H kw := fun o => Heap.put_ne _ _ (by omega)
     have g2 : ∀ (o : Option AObj) k, k < n → (H.put n o) k = H k := fun o k hk => Heap.put_ne _ _ (by omega)
     have g3 : ∀ (o o' : Option AObj) k, k < n → k ≠ kt → ((H.put n o).put kt o') k = H k := fun o o' k hk h1 => (Heap.put_ne _ _ h1).trans (g2 _ _ hk)
     have g5 : ∀ (o : Option AObj), outAt (H.put n o) (n + 1) ko lo st.out := fun o => hto0.mono (g2 _ ko hko) (fun k _ h2 => g2 _ k h2) (by omega)
     rw [hG]
     try rw [c2]
     first
     | exact shown_stay hlo st (by omega) ((g1 _).trans hw) ((g2 _ kt hkt).trans htk) (g5 _) (fun k hk _ _ _ => g2 _ k hk)
     | exact shown_left hlo { st with count := 0 } (by omega) ((g1 _).trans hw) (g5 _) (fun k hk _ _ _ => g2 _ k hk)
     | (rw [← hxe2]; exact shown_app hlo st (0 + 1) x.e xs x hxe hm (hmx.low (by omega)) (by omega) ((hlow kw (by omega)).trans ((g3 _ _ kw hkw' h.a).trans hw)) (fun k hk h1 => (hlow k (by omega)).trans (g3 _ _ k hk h1)))
     | (rw [← hxe2]; exact shown_app hlo st (st.count + 1) x.e xs x hxe hm (hmx.low (by omega)) (by omega) ((hlow kw (by omega)).trans ((g3 _ _ kw hkw' h.a).trans hw)) (fun k hk h1 => (hlow k (by omega)).trans (g3 _ _ k hk h1)))
    ·skip
     have c3 : ¬ cnt1 st d < st.n := by rw [c2]; simpa using hb
     have hG : shownG w.s st d = { st with count := cnt1 st d } := by unfold shownG; rw [if_neg c1, if_neg c3]
     refine awp_skip ?_
     try simp only [go_sem, seval, ht, hto, hww, q1, q2, q3, q4, q5, q6, q7, hnth, r1, r2]
     have g1 : ∀ (o : Option AObj), (H.put n o) kw = H kw := fun o => Heap.put_ne _ _ (by omega)
     have g2 : ∀ (o : Option AObj) k, k < n → (H.put n o) k = H k := fun o k hk => Heap.put_ne _ _ (by omega)
     have g3 : ∀ (o o' : Option AObj) k, k < n → k ≠ kt → ((H.put n o).put kt o') k = H k := fun o o' k hk h1 => (Heap.put_ne _ _ h1).trans (g2 _ _ hk)
     have g5 : ∀ (o : Option AObj), outAt (H.put n o) (n + 1) ko lo st.out := fun o => hto0.mono (g2 _ ko hko) (fun k _ h2 => g2 _ k h2) (by omega)
     rw [hG]
     try rw [c2]
     first
     | exact shown_stay hlo st (by omega) ((g1 _).trans hw) ((g2 _ kt hkt).trans htk) (g5 _) (fun k hk _ _ _ => g2 _ k hk)
     | exact shown_left hlo { st with count := 0 } (by omega) ((g1 _).trans hw) (g5 _) (fun k hk _ _ _ => g2 _ k hk)
     | (rw [← hxe2]; exact shown_app hlo st (0 + 1) x.e xs x hxe hm (hmx.low (by omega)) (by omega) ((hlow kw (by omega)).trans ((g3 _ _ kw hkw' h.a).trans hw)) (fun k hk h1 => (hlow k (by omega)).trans (g3 _ _ k hk h1)))
     | (rw [← hxe2]; exact shown_app hlo st (st.count + 1) x.e xs x hxe hm (hmx.low (by omega)) (by omega) ((hlow kw (by omega)).trans ((g3 _ _ kw hkw' h.a).trans hw)) (fun k hk h1 => (hlow k (by omega)).trans (g3 _ _ k hk h1)))
   ·skip
    have c2 : cnt1 st d = st.count := by unfold cnt1; rw [if_neg (by rw [hb]; decide)]
    have hwr : IntKind.i64.wrap (st.count + 1) = st.count + 1 := w64 (by omega) (by omega)
    refine awp_skip ?_
    try simp only [go_sem, seval, ht, hto, hww, q1, q2, q3, q4, q5, q6, q7, hnth, r1, r2]
    refine hK2 _ _ _ ?_
    first | clear hK2 K2 | skip
    refine awp_drw rfl zs [0, 3, 66] [.m, .q, .q, .q, .m, .q, .q, .q, .q] (by kernel_rfl) (fun _ _ _ _ _ h => h) fun K hK => ?_
    try simp only [go_sem, seval, ht, hto, hww, q1, q2, q3, q4, q5, q6, q7, hnth, r1, r2]
    repeat refine peel ?_
    refine hK _ _ _ ?_; clear hK K
    refine awp_cnd (fun hb => ?_) (fun hb => ?_)
    ·skip
     have c3 : cnt1 st d < st.n := by rw [c2]; simpa using hb
     have hG : shownG w.s st d = { st with count := cnt1 st d + 1, last := d.e, out := st.out ++ [d.e] } := by unfold shownG; rw [if_neg c1, if_pos c3]
     refine awp_drw rfl zs [0, 3] [.m, .m, .m, .q, .q, .q, .q, .q, .q, .q, .q, .w [7, 8], .q, .q, .w []] (by kernel_rfl) (fun _ _ _ _ _ h => h) fun K hK => ?_
     try simp only [go_sem, seval, ht, hto, hww, q1, q2, q3, q4, q5, q6, q7, hnth, r1, r2, hwr]
     repeat refine peel ?_
     refine hK _ _ _ ?_; clear hK K
     refine awp_drp1 rfl zs [] [.m, .m, .q, .q, .q, .q, .q, .w [2, 3, 4], .q, .w [], .q, .q, .w []] [0, 1, 2, 3, 4, 5, 6, 7, 8, 9, 10, 11, 12] [0, 1, 2, 3, 4, 5, 6, 7, 8, 9, 10, 11, 12] (by kernel_rfl) (fun _ _ _ _ _ h => h) fun K hK => ?_
     try simp only [go_sem, seval, ht, hto, hww, q1, q2, q3, q4, q5, q6, q7, hnth, r1, r2]
     repeat (first | (refine And.intro ?_ ?_; · first | exact ⟨rfl, by simp [AV.sz, AV.szs, AV.memOK, lentAV, Lp.av]⟩ | (simp; omega)) | refine peel ?_)
     refine callK_useK (args' := [entAV d.e]) Try.func67 rfl rfl rfl (o_retain_copied d.e he _ _) ?_ ?_
     rotate_left
     · intro p H' n' h; obtain ⟨x, hx, _⟩ := h; cases hx
     rintro r H2 n2 ⟨x, hr2, hxe2, hn2, hmx, hlow⟩
     cases hr2
     have r1 := (hlow kt (by omega)).trans (Heap.put_same _ _ _)
     have r2 := (hlow ko (by omega)).trans ((Heap.put_ne _ _ (Ne.symm h.c)).trans ((Heap.put_ne _ _ (by omega)).trans hto))
     try simp only [go_sem, seval, ht, hto, hww, q1, q2, q3, q4, q5, q6, q7, hnth, r1, r2]
     repeat (first | (refine And.intro ?_ ?_; · first | exact ⟨rfl, by simp [AV.sz, AV.szs, AV.memOK, lentAV, Lp.av]⟩ | (simp; omega)) | refine peel ?_)
     refine hK _ _ _ ?_; clear hK K
     try simp only [go_sem, seval, ht, hto, hww, q1, q2, q3, q4, q5, q6, q7, hnth, r1, r2]
     try simp only [go_sem, seval, ht, hto, hww, q1, q2, q3, q4, q5, q6, q7, hnth, r1, r2]
     have g1 : ∀ (o : Option AObj), (H.put n o) kw = H kw := fun o => Heap.put_ne _ _ (by omega)
     have g2 : ∀ (o : Option AObj) k, k < n → (H.put n o) k = H k := fun o k hk => Heap.put_ne _ _ (by omega)
     have g3 : ∀ (o o' : Option AObj) k, k < n → k ≠ kt → ((H.put n o).put kt o') k = H k := fun o o' k hk h1 => (Heap.put_ne _ _ h1).trans (g2 _ _ hk)
     have g5 : ∀ (o : Option AObj), outAt (H.put n o) (n + 1) ko lo st.out := fun o => hto0.mono (g2 _ ko hko) (fun k _ h2 => g2 _ k h2) (by omega)
     rw [hG]
     try rw [c2]
     first
     | exact shown_stay hlo st (by omega) ((g1 _).trans hw) ((g2 _ kt hkt).trans htk) (g5 _) (fun k hk _ _ _ => g2 _ k hk)
     | exact shown_left hlo { st with count := 0 } (by omega) ((g1 _).trans hw) (g5 _) (fun k hk _ _ _ => g2 _ k hk)
     | (rw [← hxe2]; exact shown_app hlo st (0 + 1) x.e xs x hxe hm (hmx.low (by omega)) (by omega) ((hlow kw (by omega)).trans ((g3 _ _ kw hkw' h.a).trans hw)) (fun k hk h1 => (hlow k (by omega)).trans (g3 _ _ k hk h1)))
     | (rw [← hxe2]; exact shown_app hlo st (st.count + 1) x.e xs x hxe hm (hmx.low (by omega)) (by omega) ((hlow kw (by omega)).trans ((g3 _ _ kw hkw' h.a).trans hw)) (fun k hk h1 => (hlow k (by omega)).trans (g3 _ _ k hk h1)))
    ·skip
     have c3 : ¬ cnt1 st d < st.n := by rw [c2]; simpa using hb
     have hG : shownG w.s st d = { st with count := cnt1 st d } := by unfold shownG; rw [if_neg c1, if_neg c3]
     refine awp_skip ?_
     try simp only [go_sem, seval, ht, hto, hww, q1, q2, q3, q4, q5, q6, q7, hnth, r1, r2]
     have g1 : ∀ (o : Option AObj), (H.put n o) kw = H kw := fun o => Heap.put_ne _ _ (by omega)
     have g2 : ∀ (o : Option AObj) k, k < n → (H.put n o) k = H k := fun o k hk => Heap.put_ne _ _ (by omega)
     have g3 : ∀ (o o' : Option AObj) k, k < n → k ≠ kt → ((H.put n o).put kt o') k = H k := fun o o' k hk h1 => (Heap.put_ne _ _ h1).trans (g2 _ _ hk)
     have g5 : ∀ (o : Option AObj), outAt (H.put n o) (n + 1) ko lo st.out := fun o => hto0.mono (g2 _ ko hko) (fun k _ h2 => g2 _ k h2) (by omega)
     rw [hG]
     try rw [c2]
     first
     | exact shown_stay hlo st (by omega) ((g1 _).trans hw) ((g2 _ kt hkt).trans htk) (g5 _) (fun k hk _ _ _ => g2 _ k hk)
     | exact shown_left hlo { st with count := 0 } (by omega) ((g1 _).trans hw) (g5 _) (fun k hk _ _ _ => g2 _ k hk)
     | (rw [← hxe2]; exact shown_app hlo st (0 + 1) x.e xs x hxe hm (hmx.low (by omega)) (by omega) ((hlow kw (by omega)).trans ((g3 _ _ kw hkw' h.a).trans hw)) (fun k hk h1 => (hlow k (by omega)).trans (g3 _ _ k hk h1)))
     | (rw [← hxe2]; exact shown_app hlo st (st.count + 1) x.e xs x hxe hm (hmx.low (by omega)) (by omega) ((hlow kw (by omega)).trans ((g3 _ _ kw hkw' h.a).trans hw)) (fun k hk h1 => (hlow k (by omega)).trans (g3 _ _ k hk h1)))
theorem shown_tkOK (kw kt ko lo : Nat) (h : KSep kw kt ko lo) : TkOK (shownTk kw kt ko lo h) SSt.ok :=
  ⟨fun w st d H n ha hok h0 h1 hf => shown_group kw kt ko lo h w st d H n ha hok h0 h1 hf, fun w st H n ha hok => shown_older kw kt ko lo h w st H n ha, fun w st e b H n ha hok he => shown_mark kw kt ko lo h w st e b H n ha⟩
def sInv (i : Nat) (st : SSt) : Prop := 0 ≤ st.count ∧ st.count ≤ i ∧ st.out.length ≤ i
theorem sInv_g {i : Nat} (s : List Fml) {st : SSt} (d : Dec) (h : sInv i st) : sInv (i + 1) (shownG s st d) := by
  obtain ⟨h1, h2, h3⟩ := h
  have h5 : 0 ≤ cnt1 st d ∧ cnt1 st d ≤ i := by unfold cnt1; split <;> omega
  unfold shownG
  split
  · exact ⟨h1, by omega, by omega⟩
  · split
    · exact ⟨by show 0 ≤ cnt1 st d + 1; omega, by show cnt1 st d + 1 ≤ _; omega, by simp; omega⟩
    · exact ⟨h5.1, by show cnt1 st d ≤ _; omega, by show st.out.length ≤ _; omega⟩
theorem shown_inv (kw kt ko lo : Nat) (h : KSep kw kt ko lo) : TkInv (shownTk kw kt ko lo h) SSt.ok 400000000000 sInv where
  ok := fun i st hi ⟨h1, h2, h3⟩ => ⟨h1, by omega⟩
  up := fun i st ⟨h1, h2, h3⟩ => ⟨h1, by omega, by omega⟩
  g := fun i s st d h => sInv_g s d h
  o := fun i st ⟨h1, h2, h3⟩ => ⟨h1, by show st.count ≤ _; omega, by show st.out.length ≤ _; omega⟩
  m := fun i st e b ⟨h1, h2, h3⟩ => ⟨h1, by show st.count ≤ _; omega, by show st.out.length ≤ _; omega⟩
theorem shown_run (kw kt ko lo : Nat) (h : KSep kw kt ko lo) (s : List Fml) (clock t n : Int) (m : List Ent) :
    (runW (shownTk kw kt ko lo h) m (wlk0 s clock) (sst0 t n)).2 = shownOf s clock t n m := runW_ev _ m _ _
theorem sInv0 (t n : Int) : sInv 0 (sst0 t n) := by simp [sInv, sst0]
theorem c_retain_showing (s : List Fml) (clock t vn : Int) (H : Heap) (n : Nat) :
    ACalls Try.prog 47 [schAV s, .int .i64 clock, .int .i64 t, .int .i64 vn] H n fun res H' n' => ∃ (kw kt ko lo : Nat) (h : KSep kw kt ko lo), res = .val (.tup [.loc kw 0 0 0 [], .loc kt 0 0 0 []]) ∧ n ≤ kw ∧ n ≤ kt ∧ n ≤ ko ∧ n ≤ n' ∧ lo = n' ∧ Ahead (shownTk kw kt ko lo h) H' n' (wlk0 s clock) (sst0 t vn) ∧ ∀ k, k < n → H' k = H k := by
  refine acalls_of_awp Try.func47 rfl Try.ntmps47 (congrArg Array.toList Try.results47) (by simp) ?_
  simp only [go_sem]
  refine awp_rq zs [1, 2, 3, 4] ?_
  refine awp_rq zs [1, 4, 10] ?_
  refine awp_rq zs [10] ?_
  refine awp_wk_obj (n + 2) (els' := [walkAV (shownTk (n + 2) (n + 1) (n + 3) (n + 4) ⟨by omega, by omega, by omega, by omega, by omega, by omega⟩) (wlk0 s clock)]) ((Heap.put_ne _ _ (by omega)).trans (Heap.put_same _ _ _)) ⟨Wk.agg ⟨.refl _, .refl _, .refl _, .refl _, Wk.agg ⟨Wk.nilsl 1, .refl _, Wk.nilsl 1, .refl _, .refl _, .refl _, Wk.nilsl 1, trivial⟩, .refl _, .refl _, .refl _, .refl _, Wk.agg ⟨Wk.agg ⟨Wk.nilsl 1, .refl _, Wk.nilsl 1, .refl _, .refl _, .refl _, Wk.nilsl 1, trivial⟩, .refl _, trivial⟩, trivial⟩, trivial⟩ ?_
  refine awp_wk_obj (n + 1) (els' := [.agg [.int .i64 t, .int .i64 vn, .nilsl, .int .i64 0, entAV (sst0 t vn).last, .loc (n + 2) 0 0 0 []]]) ((Heap.put_ne _ _ (by omega)).trans (Heap.put_same _ _ _)) ⟨Wk.agg ⟨.refl _, .refl _, .refl _, .refl _, Wk.agg ⟨Wk.nilsl 1, .refl _, Wk.nilsl 1, .refl _, .refl _, .refl _, Wk.nilsl 1, trivial⟩, .refl _, trivial⟩, trivial⟩ ?_
  refine awp_adopt_obj (n + 1) 7 (els' := [shownAV (n + 2) (n + 3) (sst0 t vn)]) (Heap.put_same _ _ _) ⟨Adp.agg ⟨.refl _ _, .refl _ _, Adp.nilsl _, .refl _ _, .refl _ _, .refl _ _, trivial⟩, trivial⟩ ?_
  refine awp_reg zs [8, 9] fun K hK => ?_
  try simp only [go_sem, seval, shownAV]
  repeat refine peel ?_
  refine hK _ _ _ ?_; clear hK K
  refine awp_ret ?_
  try simp only [go_sem, seval]
  refine ⟨n + 2, n + 1, n + 3, n + 4, ⟨by omega, by omega, by omega, by omega, by omega, by omega⟩, rfl, by omega, by omega, by omega, by omega, rfl, ⟨by simp [shownTk], fun k hk => by rcases hk with rfl | rfl <;> omega, ?_, by omega, ?_, [], rfl, ?_, MineL.nil _ _ _⟩, fun k hk => ?_⟩
  · simp [Heap.put, shownTk, walkAV, tkAV, wlk0, schAV, entAV, bys]
  · simp [Heap.put, shownTk, shownAV, sst0, entAV, bys]
  · simp [Heap.put]
  · have h0 : k ≠ n := by omega
    have h1 : ∀ j, k ≠ n + j := fun j => by omega
    have h2 : ∀ i j, k ≠ n + i + j := fun i j => by omega
    simp [Heap.put, h0, h1, h2]
theorem u_retain_Read (s : List Fml) (clock t vn : Int) (l : List Ent) (hl : l.length ≤ 100000000) (H : Heap) (n : Nat) :
    ACalls Try.prog 24 [schAV s, .int .i64 clock, .int .i64 t, .int .i64 vn, entsAV l] H n (AnsK n H (readE s clock t vn l).1 (readE s clock t vn l).2) := by
  refine acalls_of_awp Try.func24 rfl Try.ntmps24 (congrArg Array.toList Try.results24) (by simp) ?_
  simp only [go_sem]
  refine awp_rq zs [1, 2, 3, 4, 5] ?_
  refine awp_reg zs [1, 2, 3, 4, 5, 12] fun K hK => ?_
  try simp only [go_sem, seval]
  repeat (first | (refine And.intro ?_ ?_; · first | exact ⟨rfl, by simp [AV.sz, AV.memOK]⟩) | refine peel ?_)
  refine callK_use Try.func42 rfl rfl rfl ((c_retain_prepare s clock [t] (by simp) vn l (by omega) _ _)) ?_
  try simp only [go_sem, seval]
  repeat (first | (refine And.intro ?_ ?_; · first | exact ⟨rfl, by simp [AV.sz, AV.memOK]⟩) | refine peel ?_)
  refine hK _ _ _ ?_; clear hK K
  refine awp_seq_k fun K1 hK1 => ?_
  refine awp_rq zs [1, 2, 3, 4, 5, 12, 26] ?_
  refine awp_cnd (fun hb => ?_) (fun hb => ?_)
  ·skip
   have hne : (prepE s clock [t] vn l).2 ≠ 0 := by simpa using hb
   have hq : readE s clock t vn l = ([], (prepE s clock [t] vn l).2) := by unfold readE; rw [if_pos hne]
   refine awp_rq zs [10, 11] ?_
   refine awp_ret ?_
   try simp only [go_sem, seval]
   rw [hq]
   first
   | exact ⟨_, rfl, AnsU.nil _ _ _, by omega, fun k hk => Heap.put_ne _ _ (by omega)⟩
   | (have hle3 := hL.le
      have hf9 := hh.f
      refine ⟨_, rfl, .inr ⟨ko, xs.length, xs, by rw [← hxe]; simp, hxe, hh2, by omega, by omega, hm3.low (by omega), fun hin => by have := (hm3.in' hin).1; omega⟩, by omega, fun k hk => ?_⟩
      rw [hL.rest k (by omega) (show k ≠ kw by omega) (fun h => by rcases h with h | h <;> omega), hlow k (by omega), Heap.put_ne _ _ (by omega)])
  ·skip
   have hne : (prepE s clock [t] vn l).2 = 0 := by simpa using hb
   have hq : readE s clock t vn l = ((shownOf s clock t vn (prepE s clock [t] vn l).1).out, 0) := by unfold readE; rw [if_neg (by simp [hne])]
   obtain ⟨hbz, _, _, hmem, hlen⟩ := prepE_zero hne
   generalize (prepE s clock [t] vn l).1 = m at *
   refine awp_skip ?_
   try simp only [go_sem, seval]
   refine hK1 _ _ _ ?_
   first | clear hK1 K1 | skip
   refine awp_reg zs [4, 13, 14] fun K hK => ?_
   try simp only [go_sem, seval]
   repeat refine peel ?_
   refine callK_useK (args' := [schAV s, .int .i64 clock, .int .i64 t, .int .i64 vn]) Try.func47 rfl rfl rfl (c_retain_showing s clock t vn _ (n + 1)) ?_ ?_
   rotate_left
   · intro p H' n' h; obtain ⟨kw, kt, ko, lo, hh, hres, _⟩ := h; cases hres
   rintro r H2 n2 ⟨kw, kt, ko, lo, hh, hres, hkw, hkt, hko, hn2, hlo2, hah, hlow⟩
   cases hres
   try simp only [go_sem, seval]
   repeat refine peel ?_
   refine hK _ _ _ ?_; clear hK K
   refine awp_reg zs [14] fun K hK => ?_
   try simp only [go_sem, seval]
   repeat refine peel ?_
   refine callK_useK (args' := [.loc kw 0 0 0 [], entsAV m]) Try.func44 rfl rfl rfl (c_retain_walk_run (shownTk kw kt ko lo hh) SSt.ok (shown_tkOK kw kt ko lo hh) 400000000000 sInv (shown_inv kw kt ko lo hh) s (ttl_of (boundsE_zero hbz).1) m (wlk0 s clock) (sst0 t vn) H2 n2 hah (by omega) (by omega) (sInv0 t vn) (wrk0 s clock) (fun e he => goodE_of (hmem e he).2)) ?_ ?_
   rotate_left
   · intro p H' n' h; cases h.1
   rintro r H3 n3 ⟨hr3, hL⟩
   cases hr3
   obtain ⟨hlo3, hh1, xs, hxe, hh2, hm3⟩ := hL.tk
   rw [shown_run] at hh1 hxe
   simp only [shownAV] at hh1
   try simp only [go_sem, seval]
   repeat refine peel ?_
   refine hK _ _ _ ?_; clear hK K
   refine awp_reg zs [10, 11] fun K hK => ?_
   try simp only [go_sem, seval, hh1]
   repeat refine peel ?_
   refine hK _ _ _ ?_; clear hK K
   refine awp_ret ?_
   try simp only [go_sem, seval]
   rw [hq]
   first
   | exact ⟨_, rfl, AnsU.nil _ _ _, by omega, fun k hk => Heap.put_ne _ _ (by omega)⟩
   | (have hle3 := hL.le
      have hf9 := hh.f
      refine ⟨_, rfl, .inr ⟨ko, xs.length, xs, by rw [← hxe]; simp, hxe, hh2, by omega, by omega, hm3.low (by omega), fun hin => by have := (hm3.in' hin).1; omega⟩, by omega, fun k hk => ?_⟩
      rw [hL.rest k (by omega) (show k ≠ kw by omega) (fun h => by rcases h with h | h <;> omega), hlow k (by omega), Heap.put_ne _ _ (by omega)])
theorem c_retain_Read (s : List Fml) (clock t vn : Int) (l : List Ent) (hl : l.length ≤ 100000000) (H : Heap) (n : Nat) :
    Ret Try.prog 24 [schAV s, .int .i64 clock, .int .i64 t, .int .i64 vn, entsAV l] H n (.tup [entsAV (readE s clock t vn l).1, .int .i64 (readE s clock t vn l).2]) H n := AnsK.fin (u_retain_Read s clock t vn l hl H n)
theorem o_retain_Read (s : List Fml) (clock t vn : Int) (l : List Ent) (hl : l.length ≤ 100000000) (H : Heap) (n : Nat) :
    ACalls Try.prog 24 [schAV s, .int .i64 clock, .int .i64 t, .int .i64 vn, entsAV l] H n (AnsO n H (readE s clock t vn l).1 (readE s clock t vn l).2) := AnsK.own (u_retain_Read s clock t vn l hl H n)
theorem u_retain_Vis (s : List Fml) (clock : Int) (l : List Ent) (hl : l.length ≤ 100000000) (H : Heap) (n : Nat) :
    ACalls Try.prog 19 [schAV s, .int .i64 clock, entsAV l] H n (AnsK n H (visE s clock l).1 (visE s clock l).2) := by
  refine acalls_of_awp Try.func19 rfl Try.ntmps19 (congrArg Array.toList Try.results19) (by simp) ?_
  simp only [go_sem]
  refine awp_rq zs [1, 2, 3] ?_
  refine awp_reg zs [6, 7] fun K hK => ?_
  try simp only [go_sem, seval]
  repeat refine peel ?_
  refine callK_useK (args' := [schAV s, .int .i64 clock, .int .i64 1099511627776, .int .i64 16, entsAV l]) Try.func24 rfl rfl rfl (u_retain_Read s clock 1099511627776 16 l hl _ _) ?_ ?_
  rotate_left
  · intro p H' n' h; obtain ⟨a, ha, _⟩ := h; cases ha
  rintro r H2 n2 ⟨a, hr2, hans, hn2, hlow⟩
  cases hr2
  try simp only [go_sem, seval]
  repeat refine peel ?_
  refine hK _ _ _ ?_; clear hK K
  refine awp_ret ?_
  try simp only [go_sem, seval]
  try rw [hans.strip]
  exact ⟨a, rfl, hans.low (by omega), by omega, fun k hk => (hlow k (by omega)).trans (Heap.put_ne _ _ (by omega))⟩
theorem c_retain_Vis (s : List Fml) (clock : Int) (l : List Ent) (hl : l.length ≤ 100000000) (H : Heap) (n : Nat) :
    Ret Try.prog 19 [schAV s, .int .i64 clock, entsAV l] H n (.tup [entsAV (visE s clock l).1, .int .i64 (visE s clock l).2]) H n := AnsK.fin (u_retain_Vis s clock l hl H n)
theorem o_retain_Vis (s : List Fml) (clock : Int) (l : List Ent) (hl : l.length ≤ 100000000) (H : Heap) (n : Nat) :
    ACalls Try.prog 19 [schAV s, .int .i64 clock, entsAV l] H n (AnsO n H (visE s clock l).1 (visE s clock l).2) := AnsK.own (u_retain_Vis s clock l hl H n)
end Go.Proofs.Ytijhkfhflpmajaa
namespace Go.Proofs.Ytijhkfhflpmajaa
open Go Go.Sx Go.Rt Go.Proofs
def topTk (kw kt : Nat) (h : kw ≠ kt) : Tk Try.prog where
  σ := Int
  kw := kw
  recv := .loc kt 0 0 0 []
  g := 56
  o := 57
  m := 58
  fg := ⟨_, Try.func56, rfl, rfl⟩
  fo := ⟨_, Try.func57, rfl, rfl⟩
  fm := ⟨_, Try.func58, rfl, rfl⟩
  keys := fun k => k = kt
  kwn := h
  holds := fun s H n => kt < n ∧ H kt = some (.arr 0 1 [.agg [.int .i64 s]])
  ext := fun s H H' n n' hn hk ⟨a, b⟩ => ⟨by omega, (hk kt a (Ne.symm h)).trans b⟩
  grp := fun _ => topG
  old := id
  mrk := fun st _ _ => st
section
variable {kw kt : Nat} {h : kw ≠ kt} {w : Wlk} {H H1 : Heap} {n n1 : Nat}
theorem top_left (hkt : kt < n) (st' : Int) (hn : n ≤ n1) (hw : H1 kw = some (.arr 0 25 [walkAV (topTk kw kt h) w]))
    (hrest : ∀ k, k < n → k ≠ kw → k ≠ kt → H1 k = H k) : LeftU (topTk kw kt h) H n w st' (.val (.tup [])) (H1.put kt (some (.arr 0 1 [.agg [.int .i64 st']]))) n1 :=
  ⟨rfl, hn, (Heap.put_ne _ _ h).trans hw, ⟨by omega, Heap.put_same _ _ _⟩, fun k hk h1 h2 => (Heap.put_ne _ _ h2).trans (hrest k hk h1 h2)⟩
theorem top_stay (hkt : kt < n) (st : Int) (hn : n ≤ n1) (hw : H1 kw = some (.arr 0 25 [walkAV (topTk kw kt h) w])) (htk : H1 kt = some (.arr 0 1 [.agg [.int .i64 st]]))
    (hrest : ∀ k, k < n → k ≠ kw → k ≠ kt → H1 k = H k) : LeftU (topTk kw kt h) H n w st (.val (.tup [])) H1 n1 :=
  ⟨rfl, hn, hw, ⟨by omega, htk⟩, fun k hk h1 h2 => hrest k hk h1 h2⟩
end
theorem top_older (kw kt : Nat) (h : kw ≠ kt) (w : Wlk) (st : Int) (H : Heap) (n : Nat) (ha : Ahead (topTk kw kt h) H n w st) :
    ACalls Try.prog 57 [.loc kt 0 0 0 []] H n (LeftU (topTk kw kt h) H n w st) := by
  obtain ⟨hkw, hkeys, hw, hkt0, htk⟩ := ha
  refine acalls_of_awp Try.func57 rfl Try.ntmps57 (congrArg Array.toList Try.results57) (by simp) ?_
  simp only [go_sem]
  refine awp_skip ?_
  try simp only [go_sem, seval]
  exact top_stay hkt0 st (Nat.le_refl _) hw htk (fun k _ _ _ => rfl)
theorem top_mark (kw kt : Nat) (h : kw ≠ kt) (w : Wlk) (st : Int) (e : Ent) (b : Bool) (H : Heap) (n : Nat) (ha : Ahead (topTk kw kt h) H n w st) :
    ACalls Try.prog 58 [.loc kt 0 0 0 [], entAV e, .bool b] H n (LeftU (topTk kw kt h) H n w st) := by
  obtain ⟨hkw, hkeys, hw, hkt0, htk⟩ := ha
  have hkt : kt < n := hkeys kt rfl
  have hkw' : kw < n := hkw
  refine acalls_of_awp Try.func58 rfl Try.ntmps58 (congrArg Array.toList Try.results58) (by simp) ?_
  simp only [go_sem]
  refine awp_reg1 zs [] fun K hK => ?_
  try simp only [go_sem, seval]
  repeat refine peel ?_
  refine hK _ _ _ ?_; clear hK K
  try simp only [go_sem, seval]
  try simp only [go_sem, seval]
  exact top_stay hkt0 st (by omega) ((Heap.put_ne _ _ (by omega)).trans hw) ((Heap.put_ne _ _ (by omega)).trans htk) (fun k hk _ _ => Heap.put_ne _ _ (by omega))
theorem top_group (kw kt : Nat) (h : kw ≠ kt) (w : Wlk) (st : Int) (d : Dec) (H : Heap) (n : Nat) (ha : Ahead (topTk kw kt h) H n w st) :
    ACalls Try.prog 56 [.loc kt 0 0 0 [], decAV d] H n (LeftU (topTk kw kt h) H n w (topG st d)) := by
  obtain ⟨hkw, hkeys, hw, hkt0, htk⟩ := ha
  have hkt : kt < n := hkeys kt rfl
  have hkw' : kw < n := hkw
  have htk : H kt = some (.arr 0 1 [.agg [.int .i64 st]]) := htk
  have q1 : (kt = n) = False := by simp; omega
  have q3 : (n = kt) = False := by simp; omega
  refine acalls_of_awp Try.func56 rfl Try.ntmps56 (congrArg Array.toList Try.results56) (by simp) ?_
  simp only [go_sem]
  refine awp_reg zs [0, 3] fun K hK => ?_
  try simp only [go_sem, seval, htk, q1, q3]
  repeat refine peel ?_
  refine hK _ _ _ ?_; clear hK K
  refine awp_reg zs [0, 3, 6] fun K hK => ?_
  try simp only [go_sem, seval, htk, q1, q3]
  repeat refine peel ?_
  refine hK _ _ _ ?_; clear hK K
  refine awp_cnd (fun hb => ?_) (fun hb => ?_)
  ·skip
   have hG : topG st d = max st d.e.ts := by unfold topG; rw [if_pos (by simpa using hb)]
   refine awp_drw1 rfl zs [] [.m, .m, .q, .q, .q, .q, .q, .q, .q, .q, .q, .w []] (by kernel_rfl) (fun _ _ _ _ _ h => h) fun K hK => ?_
   try simp only [go_sem, seval, htk, q1, q3]
   repeat refine peel ?_
   refine hK _ _ _ ?_; clear hK K
   try simp only [go_sem, seval, htk, q1, q3]
   try simp only [go_sem, seval, htk, q1, q3]
   rw [hG]
   first | exact top_stay hkt0 st (by omega) ((Heap.put_ne _ _ (by omega)).trans hw) ((Heap.put_ne _ _ (by omega)).trans htk) (fun k hk _ _ => Heap.put_ne _ _ (by omega)) | exact top_left hkt0 _ (by omega) ((Heap.put_ne _ _ (by omega)).trans hw) (fun k hk _ _ => Heap.put_ne _ _ (by omega)) | skip
  ·skip
   have hG : topG st d = st := by unfold topG; rw [if_neg (by simpa using hb)]
   refine awp_skip ?_
   try simp only [go_sem, seval, htk, q1, q3]
   rw [hG]
   first | exact top_stay hkt0 st (by omega) ((Heap.put_ne _ _ (by omega)).trans hw) ((Heap.put_ne _ _ (by omega)).trans htk) (fun k hk _ _ => Heap.put_ne _ _ (by omega)) | exact top_left hkt0 _ (by omega) ((Heap.put_ne _ _ (by omega)).trans hw) (fun k hk _ _ => Heap.put_ne _ _ (by omega)) | skip
theorem top_tkOK (kw kt : Nat) (h : kw ≠ kt) : TkOK (topTk kw kt h) (fun _ => True) :=
  ⟨fun w st d H n ha hok h0 h1 hf => top_group kw kt h w st d H n ha, fun w st H n ha hok => top_older kw kt h w st H n ha, fun w st e b H n ha hok he => top_mark kw kt h w st e b H n ha⟩
theorem top_inv (kw kt : Nat) (h : kw ≠ kt) : TkInv (topTk kw kt h) (fun _ => True) 400000000000 (fun _ _ => True) := ⟨fun _ _ _ _ => trivial, fun _ _ _ => trivial, fun _ _ _ _ _ => trivial, fun _ _ _ => trivial, fun _ _ _ _ _ => trivial⟩
theorem top_run (kw kt : Nat) (h : kw ≠ kt) (s : List Fml) (clock : Int) (m : List Ent) :
    (runW (topTk kw kt h) m (wlk0 s clock) (0 : Int)).2 = topOf s clock m := runW_ev _ m _ _
theorem c_retain_Top (s : List Fml) (clock : Int) (l : List Ent) (hl : l.length ≤ 100000000) (H : Heap) (n : Nat) :
    Ret Try.prog 40 [schAV s, .int .i64 clock, entsAV l] H n (.tup [.int .i64 (topE s clock l).1, .int .i64 (topE s clock l).2]) H n := by
  refine Ret.fin ?_
  refine acalls_of_awp Try.func40 rfl Try.ntmps40 (congrArg Array.toList Try.results40) (by simp) ?_
  simp only [go_sem]
  refine awp_rq zs [1, 2, 3] ?_
  refine awp_reg zs [1, 2, 3, 8] fun K hK => ?_
  try simp only [go_sem, seval]
  repeat refine peel ?_
  refine callK_use Try.func42 rfl rfl rfl ((Ret.wk (c_retain_prepare s clock [] (by simp) 1 l (by omega) _ _) ⟨.refl _, .refl _, Wk.nilsl 1, .refl _, .refl _, trivial⟩)) ?_
  try simp only [go_sem, seval]
  repeat refine peel ?_
  refine hK _ _ _ ?_; clear hK K
  refine awp_seq_k fun K1 hK1 => ?_
  refine awp_rq zs [1, 2, 3, 8, 19] ?_
  refine awp_cnd (fun hb => ?_) (fun hb => ?_)
  ·skip
   have hne : (prepE s clock [] 1 l).2 ≠ 0 := by simpa using hb
   have hq : topE s clock l = (0, (prepE s clock [] 1 l).2) := by unfold topE; rw [if_pos hne]
   refine awp_rq zs [6, 7] ?_
   refine awp_ret ?_
   try simp only [go_sem, seval]
   rw [hq]
   refine ⟨_, rfl, ?_, .kl ⟨trivial, trivial, trivial⟩⟩
   · intro k hk
     have h1 : k ≠ n := by omega
     have h2 : k ≠ n + 1 := by omega
     have h3 : k ≠ n + 2 := by omega
     first | (simp only [h1, if_false]; done) | (rw [hL.rest k (by omega) h3 h2, Heap.put_ne _ _ h3, Heap.put_ne _ _ h2, Heap.put_ne _ _ h1])
  ·skip
   have hne : (prepE s clock [] 1 l).2 = 0 := by simpa using hb
   have hq : topE s clock l = (topOf s clock (prepE s clock [] 1 l).1, 0) := by unfold topE; rw [if_neg (by simp [hne])]
   obtain ⟨hbz, _, _, hmem, hlen⟩ := prepE_zero hne
   generalize (prepE s clock [] 1 l).1 = m at *
   refine awp_skip ?_
   try simp only [go_sem, seval]
   refine hK1 _ _ _ ?_
   first | clear hK1 K1 | skip
   refine awp_rq zs [1, 2, 3, 9] ?_
   refine awp_rq zs [2, 9, 10] ?_
   refine awp_wk_obj (n + 2) (els' := [walkAV (topTk (n + 2) (n + 1) (by omega)) (wlk0 s clock)]) (Heap.put_same _ _ _) ⟨Wk.agg ⟨.refl _, .refl _, .refl _, .refl _, Wk.agg ⟨Wk.nilsl 1, .refl _, Wk.nilsl 1, .refl _, .refl _, .refl _, Wk.nilsl 1, trivial⟩, .refl _, .refl _, .refl _, .refl _, Wk.agg ⟨Wk.agg ⟨Wk.nilsl 1, .refl _, Wk.nilsl 1, .refl _, .refl _, .refl _, Wk.nilsl 1, trivial⟩, .refl _, trivial⟩, trivial⟩, trivial⟩ ?_
   have hah : ∀ o, Ahead (topTk (n + 2) (n + 1) (by omega)) ((((H.put n o).put (n + 1) (some (.arr 0 1 [.agg [.int .i64 0]]))).put (n + 2) (some (.arr 0 25 [walkAV (topTk (n + 2) (n + 1) (by omega)) (wlk0 s clock)])))) (n + 3) (wlk0 s clock) (0 : Int) := fun o => ⟨by show n + 2 < n + 3; omega, fun k hk => by have : k = n + 1 := hk; omega, Heap.put_same _ _ _, ⟨by omega, (Heap.put_ne _ _ (by omega)).trans (Heap.put_same _ _ _)⟩⟩
   refine awp_reg zs [9] fun K hK => ?_
   try simp only [go_sem, seval]
   repeat refine peel ?_
   refine callK_useK (args' := [.loc (n + 2) 0 0 0 [], entsAV m]) Try.func44 rfl rfl rfl (c_retain_walk_run (topTk (n + 2) (n + 1) (by omega)) (fun _ => True) (top_tkOK _ _ _) 400000000000 (fun _ _ => True) (top_inv _ _ _) s (ttl_of (boundsE_zero hbz).1) m (wlk0 s clock) (0 : Int) _ (n + 3) (hah _) (by omega) (by omega) trivial (wrk0 s clock) (fun e he => goodE_of (hmem e he).2)) ?_ ?_
   rotate_left
   · intro p H' n' h; cases h.1
   rintro r H3 n3 ⟨hr3, hL⟩
   cases hr3
   have hh1 := hL.tk
   rw [top_run] at hh1
   have hh1 : H3 (n + 1) = some (.arr 0 1 [.agg [.int .i64 (topOf s clock m)]]) := hh1.2
   try simp only [go_sem, seval]
   repeat refine peel ?_
   refine hK _ _ _ ?_; clear hK K
   refine awp_reg zs [6, 7] fun K hK => ?_
   try simp only [go_sem, seval, hh1]
   repeat refine peel ?_
   refine hK _ _ _ ?_; clear hK K
   refine awp_ret ?_
   try simp only [go_sem, seval]
   rw [hq]
   refine ⟨_, rfl, ?_, .kl ⟨trivial, trivial, trivial⟩⟩
   · intro k hk
     have h1 : k ≠ n := by omega
     have h2 : k ≠ n + 1 := by omega
     have h3 : k ≠ n + 2 := by omega
     first | (simp only [h1, if_false]; done) | (rw [hL.rest k (by omega) h3 h2, Heap.put_ne _ _ h3, Heap.put_ne _ _ h2, Heap.put_ne _ _ h1])
def badsC : List Ent → Int
  | [] => 0
  | e :: l => if checkE e ≠ 0 then checkE e else badsC l
def sortE (l : List Ent) : List Ent × Int := if badsC l ≠ 0 then ([], badsC l) else sortedE l
theorem badsC_fits : ∀ (l : List Ent), badsC l = 0 → ∀ e ∈ l, checkE e = 0 := by
  intro l
  induction l with
  | nil => intro _ e he; cases he
  | cons x l ih =>
    intro h e he
    rw [badsC] at h
    split at h
    · rename_i h1; exact absurd h h1
    · rename_i h1
      rcases List.mem_cons.1 he with rfl | he
      · simpa using h1
      · exact ih h e he
theorem u_retain_Sort (l : List Ent) (hl : l.length ≤ 100000000) (H : Heap) (n : Nat) :
    ACalls Try.prog 23 [entsAV l] H n (AnsK n H (sortE l).1 (sortE l).2) := by
  refine acalls_of_awp Try.func23 rfl Try.ntmps23 (congrArg Array.toList Try.results23) (by simp) ?_
  simp only [go_sem]
  refine awp_rq zs [0] ?_
  refine awp_seq_k fun K1 hK1 => ?_
  refine awp_rq zs [0, 7, 8, 9] ?_
  refine awp_block ?_
  refine awp_loop (fun T' H' n' => ∃ (i : Nat), i ≤ l.length ∧ T' = tl [(0, .sl 7 (l.map entAV)), (7, .sl 7 (l.map entAV)), (8, .int .i64 l.length), (9, .int .i64 i)] ∧ n ≤ n' ∧ (∀ k, k < n → H' k = H k) ∧ badsC (l.drop i) = badsC l) (fun T' _ _ => l.length - iv (T' 9)) ?_ ?_
  ·skip
   exact ⟨0, Nat.zero_le _, by rw [List.length_map]; rfl, by omega, fun k hk => rfl, rfl⟩
  intro T1 H1 n1
  rintro ⟨i, hi, rfl, hn, hrest, hd⟩
  refine awp_rq zs [0, 7, 8, 9, 10] ?_
  refine awp_seq_k fun K2 hK2 => ?_
  refine awp_cnd (fun hb => ?_) (fun hb => ?_)
  ·skip
   have hlt : i < l.length := by simpa using hb
   rw [drop_cons l i hlt, badsC] at hd
   have hnth : nth (l.map entAV) i = entAV (l.getD i default) := nth_map entAV l i hlt
   generalize l.getD i default = e at *
   refine awp_skip ?_
   try simp only [go_sem, seval]
   refine hK2 _ _ _ ?_
   first | clear hK2 K2 | skip
   refine awp_seq_k fun K3 hK3 => ?_
   refine awp_block ?_
   refine awp_reg zs [0, 5, 7, 8, 9] fun K hK => ?_
   try simp only [go_sem, seval, Int.toNat_natCast, hnth]
   repeat refine peel ?_
   refine hK _ _ _ ?_; clear hK K
   refine awp_reg zs [0, 6, 7, 8, 9] fun K hK => ?_
   try simp only [go_sem, seval]
   repeat refine peel ?_
   refine callK_use Try.func45 rfl rfl rfl ((c_cell_Check e _ _)) ?_
   try simp only [go_sem, seval]
   repeat refine peel ?_
   refine hK _ _ _ ?_; clear hK K
   refine awp_rq zs [0, 6, 7, 8, 9, 16] ?_
   refine awp_cnd (fun hb => ?_) (fun hb => ?_)
   ·skip
    have hne : checkE e ≠ 0 := by simpa using hb
    rw [if_pos hne] at hd
    have hp : sortE l = ([], checkE e) := by unfold sortE; rw [← hd, if_pos hne]
    refine awp_rq zs [2, 3] ?_
    refine awp_ret ?_
    try simp only [go_sem, seval]
    rw [hp]
    first
    | (try rw [hans.strip]
       exact ⟨a, rfl, hans.low (by omega), by omega, fun k hk => (hlow k (by omega)).trans (hrest k hk)⟩)
    | exact ⟨_, rfl, AnsU.nil _ _ _, by omega, fun k hk => (Heap.put_ne _ _ (by omega)).trans (hrest k hk)⟩
   ·skip
    have hne : ¬ checkE e ≠ 0 := by simpa using hb
    rw [if_neg hne] at hd
    refine awp_skip ?_
    try simp only [go_sem, seval]
    refine hK3 _ _ _ ?_
    first | clear hK3 K3 | skip
    refine awp_reg1 zs [0, 7, 8, 9] fun K hK => ?_
    try simp only [go_sem, seval]
    repeat refine peel ?_
    refine hK _ _ _ ?_; clear hK K
    try simp only [go_sem, seval]
    refine ⟨⟨i + 1, by omega, by rw [w1 (by omega)], by omega, ?_, hd⟩, by rw [w1 (by omega)]; simp; omega⟩
    · intro k hk; have h1 : k ≠ n1 := by omega
      simp only [Heap.put, h1, if_false]; exact hrest k hk
  ·skip
   have hge : i = l.length := by simp at hb; omega
   rw [hge, List.drop_length, badsC] at hd
   have hp : sortE l = sortedE l := by unfold sortE; rw [← hd]; simp
   refine awp_exit ?_
   try simp only [go_sem, seval]
   refine hK1 _ _ _ ?_
   first | clear hK1 K1 | skip
   refine awp_reg zs [2, 3] fun K hK => ?_
   try simp only [go_sem, seval]
   repeat refine peel ?_
   refine callK_useK (args' := [entsAV l]) Try.func46 rfl rfl rfl (u_retain_sorted l (by omega) (fun e he => fits_of (badsC_fits l hd.symm e he)) _ _) ?_ ?_
   rotate_left
   · intro p H' n' h; obtain ⟨a, ha, _⟩ := h; cases ha
   rintro r H2 n2 ⟨a, hr2, hans, hn2, hlow⟩
   cases hr2
   try simp only [go_sem, seval]
   repeat refine peel ?_
   refine hK _ _ _ ?_; clear hK K
   refine awp_ret ?_
   try simp only [go_sem, seval]
   rw [hp]
   first
   | (try rw [hans.strip]
      exact ⟨a, rfl, hans.low (by omega), by omega, fun k hk => (hlow k (by omega)).trans (hrest k hk)⟩)
   | exact ⟨_, rfl, AnsU.nil _ _ _, by omega, fun k hk => (Heap.put_ne _ _ (by omega)).trans (hrest k hk)⟩
theorem c_retain_Sort (l : List Ent) (hl : l.length ≤ 100000000) (H : Heap) (n : Nat) :
    Ret Try.prog 23 [entsAV l] H n (.tup [entsAV (sortE l).1, .int .i64 (sortE l).2]) H n := AnsK.fin (u_retain_Sort l hl H n)
theorem o_retain_Sort (l : List Ent) (hl : l.length ≤ 100000000) (H : Heap) (n : Nat) :
    ACalls Try.prog 23 [entsAV l] H n (AnsO n H (sortE l).1 (sortE l).2) := AnsK.own (u_retain_Sort l hl H n)
end Go.Proofs.Ytijhkfhflpmajaa
namespace Go.Proofs.Ytijhkfhflpmajaa
open Go Go.Sx Go.Rt Go.Proofs
theorem c_law_num (e : Int) (H : Heap) (n : Nat) : Ret Try.prog 16 [.int .i64 e] H n (.int .i64 e) H n := by
  refine acalls_of_awp Try.func16 rfl Try.ntmps16 (congrArg Array.toList Try.results16) (by simp) ?_
  simp only [go_sem]
  refine awp_rq zs [0] ?_
  refine awp_rq zs [2] ?_
  refine awp_ret ?_
  try simp only [go_sem, seval]
theorem c_ref3_Alike (a b : List UInt8) (H : Heap) (n : Nat) : Ret Try.prog 20 [bys a, bys b] H n (.bool (a == b)) H n := by
  refine acalls_of_awp Try.func20 rfl Try.ntmps20 (congrArg Array.toList Try.results20) (by simp) ?_
  simp only [go_sem]
  refine awp_rq zs [0, 1] ?_
  refine awp_reg zs [4] fun K hK => ?_
  try simp only [go_sem, seval, map_byteOf]
  repeat (first | (refine And.intro ?_ ?_; · first | exact bys_isByte _) | refine peel ?_)
  refine hK _ _ _ ?_; clear hK K
  refine awp_ret ?_
  try simp only [go_sem, seval]
theorem c_ref3_Same (a b : Ent) (H : Heap) (n : Nat) : Ret Try.prog 41 [entAV a, entAV b] H n (.bool (sameE a b)) H n := by
  refine Ret.fin ?_
  refine acalls_of_awp Try.func41 rfl Try.ntmps41 (congrArg Array.toList Try.results41) (by simp) ?_
  simp only [go_sem]
  refine awp_rq zs [2, 3] ?_
  refine awp_seq_k fun K1 hK1 => ?_
  refine awp_rq zs [2, 3, 30] ?_
  refine awp_cnd (fun hb => ?_) (fun hb => ?_)
  ·skip
   refine awp_rq zs [4] ?_
   refine awp_ret ?_
   try simp only [go_sem, seval]
   refine ⟨_, rfl, ?_, Frz.eq ?_ trivial⟩
   · intro k hk; have h0 : k ≠ n := by omega
     have h1 : ∀ j, k ≠ n + j := fun j => by omega
     simp [Heap.put, h0, h1]
   rw [sameE_eq]; simp only [bne] at hb; congr 1
   generalize (a.fam == b.fam) = p1 at *
   generalize (a.ts == b.ts) = p2 at *
   generalize (a.seq == b.seq) = p3 at *
   generalize (a.kind == b.kind) = p4 at *
   generalize (a.row == b.row) = p5 at *
   generalize (a.qual == b.qual) = p6 at *
   generalize (a.value == b.value) = p7 at *
   revert hb; revert p1 p2 p3 p4 p5 p6 p7; decide
  ·skip
   refine awp_skip ?_
   try simp only [go_sem, seval]
   refine hK1 _ _ _ ?_
   first | clear hK1 K1 | skip
   refine awp_reg zs [4] fun K hK => ?_
   try simp only [go_sem, seval]
   repeat refine peel ?_
   refine callK_use Try.func20 rfl rfl rfl ((c_ref3_Alike a.row b.row _ _)) ?_
   try simp only [go_sem, seval]
   repeat refine peel ?_
   refine callG_use Try.func20 rfl rfl rfl (fun _ => (c_ref3_Alike a.qual b.qual _ _)) ?_
   try simp only [go_sem, seval]
   repeat refine peel ?_
   refine callG_use Try.func20 rfl rfl rfl (fun _ => (c_ref3_Alike a.value b.value _ _)) ?_
   try simp only [go_sem, seval]
   repeat refine peel ?_
   refine hK _ _ _ ?_; clear hK K
   refine awp_ret ?_
   try simp only [go_sem, seval]
   refine ⟨_, rfl, ?_, Frz.eq ?_ trivial⟩
   · intro k hk; have h0 : k ≠ n := by omega
     have h1 : ∀ j, k ≠ n + j := fun j => by omega
     simp [Heap.put, h0, h1]
   rw [sameE_eq]; simp only [bne] at hb; congr 1
   generalize (a.fam == b.fam) = p1 at *
   generalize (a.ts == b.ts) = p2 at *
   generalize (a.seq == b.seq) = p3 at *
   generalize (a.kind == b.kind) = p4 at *
   generalize (a.row == b.row) = p5 at *
   generalize (a.qual == b.qual) = p6 at *
   generalize (a.value == b.value) = p7 at *
   revert hb; revert p1 p2 p3 p4 p5 p6 p7; decide
theorem c_ref3_SameAll (a b : List Ent) (hl : a.length < 4611686018427387904) (H : Heap) (n : Nat) : Ret Try.prog 18 [entsAV a, entsAV b] H n (.bool (decide (a = b))) H n := by
  refine acalls_of_awp Try.func18 rfl Try.ntmps18 (congrArg Array.toList Try.results18) (by simp) ?_
  simp only [go_sem]
  refine awp_rq zs [0, 1] ?_
  refine awp_seq_k fun K1 hK1 => ?_
  refine awp_rq zs [0, 1, 11] ?_
  refine awp_cnd (fun hb => ?_) (fun hb => ?_)
  ·skip
   have hne : a.length ≠ b.length := by simp at hb; exact fun h => hb (by rw [h])
   refine awp_rq zs [4] ?_
   refine awp_ret ?_
   try simp only [go_sem, seval]
   first
   | (have h9 : ¬ a = b := fun h => hne (by rw [h])
      simp [h9])
   | (rw [← hd]; simp [hxy])
   | (rw [← hd, hge, hel]; simp [← hel])
  ·skip
   have hel : a.length = b.length := by simp at hb; exact Int.ofNat_inj.1 hb
   refine awp_skip ?_
   try simp only [go_sem, seval]
   refine hK1 _ _ _ ?_
   first | clear hK1 K1 | skip
   refine awp_seq_k fun K2 hK2 => ?_
   refine awp_rq zs [0, 1, 5] ?_
   refine awp_block ?_
   refine awp_loop (fun T' H' n' => ∃ i : Nat, i ≤ a.length ∧ T' = tl [(0, .sl 7 (a.map entAV)), (1, .sl 7 (b.map entAV)), (5, .int .i64 i)] ∧ H' = H ∧ n' = n ∧ (decide (a.drop i = b.drop i)) = decide (a = b)) (fun T' _ _ => a.length - iv (T' 5)) ?_ ?_
   ·skip
    exact ⟨0, Nat.zero_le _, rfl, rfl, rfl, rfl⟩
   intro T1 H1 n1
   rintro ⟨i, hi, rfl, rfl, rfl, hd⟩
   refine awp_seq_k fun K3 hK3 => ?_
   refine awp_rq zs [0, 1, 5, 15] ?_
   refine awp_cnd (fun hb => ?_) (fun hb => ?_)
   ·skip
    have hlt : i < a.length := by simpa using hb
    have hlb : i < b.length := by omega
    rw [drop_cons a i hlt, drop_cons b i hlb] at hd
    have hn1 : nth (a.map entAV) i = entAV (a.getD i default) := nth_map entAV a i hlt
    have hn2 : nth (b.map entAV) i = entAV (b.getD i default) := nth_map entAV b i hlb
    generalize a.getD i default = x at *
    generalize b.getD i default = y at *
    refine awp_skip ?_
    try simp only [go_sem, seval]
    refine hK3 _ _ _ ?_
    first | clear hK3 K3 | skip
    refine awp_seq_k fun K4 hK4 => ?_
    refine awp_block ?_
    refine awp_drw rfl zs [0, 1, 5, 6] [.m, .m, .q, .q, .m, .m, .q, .q, .c, .q] (by kernel_rfl) (fun _ _ _ _ _ h => h) fun K hK => ?_
    try simp only [go_sem, seval, Int.toNat_natCast, hn1, hn2]
    repeat refine peel ?_
    refine callQG_use Try.func41 rfl rfl rfl (fun _ n => (c_ref3_Same x y _ _)) ?_
    try simp only [go_sem, seval, Int.toNat_natCast, hn1, hn2]
    repeat refine peel ?_
    refine hK _ _ _ ?_; clear hK K
    refine awp_rq zs [0, 1, 5, 28] ?_
    refine awp_cnd (fun hb => ?_) (fun hb => ?_)
    ·skip
     have hxy : x ≠ y := by simpa [sameE] using hb
     refine awp_rq zs [4] ?_
     refine awp_ret ?_
     try simp only [go_sem, seval]
     first
     | (have h9 : ¬ a = b := fun h => hne (by rw [h])
        simp [h9])
     | (rw [← hd]; simp [hxy])
     | (rw [← hd, hge, hel]; simp [← hel])
    ·skip
     have hxy : x = y := by simpa [sameE] using hb
     refine awp_skip ?_
     try simp only [go_sem, seval]
     refine hK4 _ _ _ ?_
     first | clear hK4 K4 | skip
     refine awp_reg1 zs [0, 1, 5] fun K hK => ?_
     try simp only [go_sem, seval]
     repeat refine peel ?_
     refine hK _ _ _ ?_; clear hK K
     try simp only [go_sem, seval]
     refine ⟨⟨i + 1, by omega, by rw [w1 (by omega)], by rw [← hd, hxy]; simp⟩, by rw [w1 (by omega)]; simp; omega⟩
   ·skip
    have hge : i = a.length := by simp at hb; omega
    refine awp_exit ?_
    try simp only [go_sem, seval]
    refine hK2 _ _ _ ?_
    first | clear hK2 K2 | skip
    refine awp_rq zs [4] ?_
    refine awp_ret ?_
    try simp only [go_sem, seval]
    first
    | (have h9 : ¬ a = b := fun h => hne (by rw [h])
       simp [h9])
    | (rw [← hd]; simp [hxy])
    | (rw [← hd, hge, hel]; simp [← hel])
theorem c_ref3_Copied (b : List UInt8) (hb : b.length ≤ 140737488355328) (H : Heap) (n : Nat) : Ret Try.prog 54 [bys b] H n (bys b) H n := by
  refine acalls_of_awp Try.func54 rfl Try.ntmps54 (congrArg Array.toList Try.results54) (by simp) ?_
  simp only [go_sem]
  refine awp_rq zs [0] ?_
  refine awp_rq zs [0, 3] ?_
  refine awp_reg zs [2] fun K hK => ?_
  try simp only [go_sem, seval]
  repeat (first | (refine And.intro ?_ ?_; · first | (simp; omega) | exact ⟨.inr trivial, by simp; omega, by simp; omega⟩) | refine peel ?_)
  refine hK _ _ _ ?_; clear hK K
  refine awp_ret ?_
  try simp only [go_sem, seval]
theorem c_ref3_Clone (e : Ent) (he : e.fits) (H : Heap) (n : Nat) : Ret Try.prog 33 [entAV e] H n (entAV e) H n := by
  obtain ⟨h1, h2, h3⟩ := he
  refine Ret.fin ?_
  refine acalls_of_awp Try.func33 rfl Try.ntmps33 (congrArg Array.toList Try.results33) (by simp) ?_
  simp only [go_sem]
  refine awp_rq zs [1, 2] ?_
  refine awp_reg zs [1, 2] fun K hK => ?_
  try simp only [go_sem, seval]
  repeat refine peel ?_
  refine callK_use Try.func54 rfl rfl rfl ((c_ref3_Copied e.row h1 _ _)) ?_
  try simp only [go_sem, seval]
  repeat refine peel ?_
  refine hK _ _ _ ?_; clear hK K
  refine awp_reg zs [1, 2] fun K hK => ?_
  try simp only [go_sem, seval]
  repeat refine peel ?_
  refine callK_use Try.func54 rfl rfl rfl ((c_ref3_Copied e.qual h2 _ _)) ?_
  try simp only [go_sem, seval]
  repeat refine peel ?_
  refine hK _ _ _ ?_; clear hK K
  refine awp_reg zs [1, 2] fun K hK => ?_
  try simp only [go_sem, seval]
  repeat refine peel ?_
  refine callK_use Try.func54 rfl rfl rfl ((c_ref3_Copied e.value h3 _ _)) ?_
  try simp only [go_sem, seval]
  repeat refine peel ?_
  refine hK _ _ _ ?_; clear hK K
  refine awp_rq zs [2] ?_
  refine awp_ret ?_
  try simp only [go_sem, seval]
  refine ⟨_, rfl, ?_, Frz.eq rfl (kl_ent e n)⟩
  intro k hk; have h0 : k ≠ n := by omega
  have h1 : ∀ j, k ≠ n + j := fun j => by omega
  simp [Heap.put, h0, h1]
end Go.Proofs.Ytijhkfhflpmajaa
namespace Go.Proofs.Ytijhkfhflpmajaa
open Go Go.Sx Go.Rt Go.Proofs
def oneE (kind ts seq : Int) : Ent := ⟨[114], 0, if kind = 5 then [] else [113], ts, seq, kind, if kind = 1 then [118] else []⟩
theorem c_law_one (kind ts seq : Int) (H : Heap) (n : Nat) : Ret Try.prog 38 [.int .i64 kind, .int .i64 ts, .int .i64 seq] H n (entAV (oneE kind ts seq)) H n := by
  refine Ret.fin ?_
  refine acalls_of_awp Try.func38 rfl Try.ntmps38 (congrArg Array.toList Try.results38) (by simp) ?_
  simp only [go_sem]
  refine awp_reg zs [0, 1, 2, 6] fun K hK => ?_
  try simp only [go_sem, seval, Nat.add_assoc]
  repeat refine peel ?_
  refine hK _ _ _ ?_; clear hK K
  refine awp_reg zo [0, 6, 7] fun K hK => ?_
  try simp only [go_sem, seval, Nat.add_assoc]
  repeat refine peel ?_
  refine hK _ _ _ ?_; clear hK K
  refine awp_seq_k fun K1 hK1 => ?_
  refine awp_reg zs [0, 6, 7, 17] fun K hK => ?_
  try simp only [go_sem, seval, Nat.add_assoc]
  repeat refine peel ?_
  refine hK _ _ _ ?_; clear hK K
  refine awp_cnd (fun hb => ?_) (fun hb => ?_)
  ·skip
   have h1 : kind = 1 := by simpa using hb
   refine awp_reg1 zo [0, 6, 7] fun K hK => ?_
   try simp only [go_sem, seval, Nat.add_assoc]
   repeat refine peel ?_
   refine hK _ _ _ ?_; clear hK K
   try simp only [go_sem, seval, Nat.add_assoc]
   refine hK1 _ _ _ ?_
   first | clear hK1 K1 | skip
   refine awp_seq_k fun K2 hK2 => ?_
   refine awp_reg zs [6, 7, 22] fun K hK => ?_
   try simp only [go_sem, seval, Nat.add_assoc]
   repeat refine peel ?_
   refine hK _ _ _ ?_; clear hK K
   refine awp_cnd (fun hb => ?_) (fun hb => ?_)
   ·skip
    have h2 : kind = 5 := by simpa using hb
    refine awp_reg1 zs [6, 7] fun K hK => ?_
    try simp only [go_sem, seval, Nat.add_assoc]
    repeat refine peel ?_
    refine hK _ _ _ ?_; clear hK K
    try simp only [go_sem, seval, Nat.add_assoc]
    refine hK2 _ _ _ ?_
    first | clear hK2 K2 | skip
    refine awp_reg zs [6] fun K hK => ?_
    try simp only [go_sem, seval, Nat.add_assoc]
    repeat refine peel ?_
    refine hK _ _ _ ?_; clear hK K
    refine awp_ret ?_
    try simp only [go_sem, seval, Nat.add_assoc]
    refine ⟨_, rfl, ?_, ?_⟩
    · intro k hk; have h0 : k ≠ n := by omega
      have h1 : ∀ j, k ≠ n + j := fun j => by omega
      simp [Heap.put, h0, h1]
    · simp only [oneE, h1, h2, if_true, if_false, entAV, Int.reduceEq, Nat.reduceEqDiff]
      refine Frz.agg ?_
      repeat' (first | exact FrzL.nil | refine FrzL.cons ?_ ?_ | exact Frz.nilsl | exact Frz.kl (a := .sl 1 [.int .u8 114]) ⟨trivial, trivial⟩ | exact Frz.kl (a := .sl 1 [.int .u8 113]) ⟨trivial, trivial⟩ | exact Frz.kl (a := .sl 1 [.int .u8 118]) ⟨trivial, trivial⟩ | exact Frz.kl trivial | (exfalso; omega))
   ·skip
    have h2 : kind ≠ 5 := by simpa using hb
    refine awp_skip ?_
    try simp only [go_sem, seval, Nat.add_assoc]
    refine hK2 _ _ _ ?_
    first | clear hK2 K2 | skip
    refine awp_reg zs [6] fun K hK => ?_
    try simp only [go_sem, seval, Nat.add_assoc]
    repeat refine peel ?_
    refine hK _ _ _ ?_; clear hK K
    refine awp_ret ?_
    try simp only [go_sem, seval, Nat.add_assoc]
    refine ⟨_, rfl, ?_, ?_⟩
    · intro k hk; have h0 : k ≠ n := by omega
      have h1 : ∀ j, k ≠ n + j := fun j => by omega
      simp [Heap.put, h0, h1]
    · simp only [oneE, h1, h2, if_true, if_false, entAV, Int.reduceEq, Nat.reduceEqDiff]
      refine Frz.agg ?_
      repeat' (first | exact FrzL.nil | refine FrzL.cons ?_ ?_ | exact Frz.nilsl | exact Frz.kl (a := .sl 1 [.int .u8 114]) ⟨trivial, trivial⟩ | exact Frz.kl (a := .sl 1 [.int .u8 113]) ⟨trivial, trivial⟩ | exact Frz.kl (a := .sl 1 [.int .u8 118]) ⟨trivial, trivial⟩ | exact Frz.kl trivial | (exfalso; omega))
  ·skip
   have h1 : kind ≠ 1 := by simpa using hb
   refine awp_skip ?_
   try simp only [go_sem, seval, Nat.add_assoc]
   refine hK1 _ _ _ ?_
   first | clear hK1 K1 | skip
   refine awp_seq_k fun K3 hK3 => ?_
   refine awp_reg zs [6, 7, 22] fun K hK => ?_
   try simp only [go_sem, seval, Nat.add_assoc]
   repeat refine peel ?_
   refine hK _ _ _ ?_; clear hK K
   refine awp_cnd (fun hb => ?_) (fun hb => ?_)
   ·skip
    have h2 : kind = 5 := by simpa using hb
    refine awp_reg1 zs [6, 7] fun K hK => ?_
    try simp only [go_sem, seval, Nat.add_assoc]
    repeat refine peel ?_
    refine hK _ _ _ ?_; clear hK K
    try simp only [go_sem, seval, Nat.add_assoc]
    refine hK3 _ _ _ ?_
    first | clear hK3 K3 | skip
    refine awp_reg zs [6] fun K hK => ?_
    try simp only [go_sem, seval, Nat.add_assoc]
    repeat refine peel ?_
    refine hK _ _ _ ?_; clear hK K
    refine awp_ret ?_
    try simp only [go_sem, seval, Nat.add_assoc]
    refine ⟨_, rfl, ?_, ?_⟩
    · intro k hk; have h0 : k ≠ n := by omega
      have h1 : ∀ j, k ≠ n + j := fun j => by omega
      simp [Heap.put, h0, h1]
    · simp only [oneE, h1, h2, if_true, if_false, entAV, Int.reduceEq, Nat.reduceEqDiff]
      refine Frz.agg ?_
      repeat' (first | exact FrzL.nil | refine FrzL.cons ?_ ?_ | exact Frz.nilsl | exact Frz.kl (a := .sl 1 [.int .u8 114]) ⟨trivial, trivial⟩ | exact Frz.kl (a := .sl 1 [.int .u8 113]) ⟨trivial, trivial⟩ | exact Frz.kl (a := .sl 1 [.int .u8 118]) ⟨trivial, trivial⟩ | exact Frz.kl trivial | (exfalso; omega))
   ·skip
    have h2 : kind ≠ 5 := by simpa using hb
    refine awp_skip ?_
    try simp only [go_sem, seval, Nat.add_assoc]
    refine hK3 _ _ _ ?_
    first | clear hK3 K3 | skip
    refine awp_reg zs [6] fun K hK => ?_
    try simp only [go_sem, seval, Nat.add_assoc]
    repeat refine peel ?_
    refine hK _ _ _ ?_; clear hK K
    refine awp_ret ?_
    try simp only [go_sem, seval, Nat.add_assoc]
    refine ⟨_, rfl, ?_, ?_⟩
    · intro k hk; have h0 : k ≠ n := by omega
      have h1 : ∀ j, k ≠ n + j := fun j => by omega
      simp [Heap.put, h0, h1]
    · simp only [oneE, h1, h2, if_true, if_false, entAV, Int.reduceEq, Nat.reduceEqDiff]
      refine Frz.agg ?_
      repeat' (first | exact FrzL.nil | refine FrzL.cons ?_ ?_ | exact Frz.nilsl | exact Frz.kl (a := .sl 1 [.int .u8 114]) ⟨trivial, trivial⟩ | exact Frz.kl (a := .sl 1 [.int .u8 113]) ⟨trivial, trivial⟩ | exact Frz.kl (a := .sl 1 [.int .u8 118]) ⟨trivial, trivial⟩ | exact Frz.kl trivial | (exfalso; omega))
def familyE (max ttl : Int) : List Fml := [⟨[102], max, ttl⟩]
theorem c_law_family (max ttl : Int) (H : Heap) (n : Nat) : Ret Try.prog 39 [.int .i64 max, .int .i64 ttl] H n (schAV (familyE max ttl)) H n := by
  refine Ret.fin ?_
  refine acalls_of_awp Try.func39 rfl Try.ntmps39 (congrArg Array.toList Try.results39) (by simp) ?_
  simp only [go_sem]
  refine awp_rq zs [0, 1, 4] ?_
  refine awp_reg zs [4] fun K hK => ?_
  try simp only [go_sem, seval]
  repeat (first | (refine And.intro ?_ ?_; · first | exact ⟨rfl, by simp [AV.sz, AV.szs, AV.memOK]⟩) | refine peel ?_)
  refine hK _ _ _ ?_; clear hK K
  refine awp_ret ?_
  try simp only [go_sem, seval]
  refine ⟨_, rfl, ?_, Frz.kl (show AV.kl n (schAV (familyE max ttl)) from kl_sch _ _)⟩
  · intro k hk; have h0 : k ≠ n := by omega
    simp [Heap.put, h0]
def l0 : List Ent := [oneE 1 5 3, oneE 1 9 1, oneE 3 7 4, oneE 1 7 2]
theorem vis0 : visE (familyE 2 10) 12 l0 = ([oneE 1 9 1], 0) := by decide +kernel
theorem squash0 : squashE (familyE 2 10) 12 false 0 l0 = ([oneE 1 9 1, oneE 2 7 4], 0) := by decide +kernel
theorem read0 : readE (familyE 2 10) 12 12 1 l0 = ([oneE 1 9 1], 0) := by decide +kernel
theorem top0 : topE (familyE 2 10) 12 l0 = (9, 0) := by decide +kernel
set_option maxHeartbeats 1600000 in
theorem c_law_started (H : Heap) (n : Nat) : Ret Try.prog 11 [] H n (.bool true) H n := by
  refine acalls_of_awp Try.func11 rfl Try.ntmps11 (congrArg Array.toList Try.results11) (by simp) ?_
  simp only [go_sem]
  refine awp_reg zs [] fun K hK => ?_
  try simp only [go_sem, seval, vis0, squash0, read0, top0]
  repeat refine peel ?_
  refine hK _ _ _ ?_; clear hK K
  refine awp_reg zs [1] fun K hK => ?_
  try simp only [go_sem, seval, vis0, squash0, read0, top0]
  repeat (first | (refine And.intro ?_ ?_; · first | exact ⟨rfl, by simp [AV.sz, AV.szs, AV.memOK]⟩) | refine peel ?_)
  refine callK_use Try.func38 rfl rfl rfl ((c_law_one 1 5 3 _ _)) ?_
  try simp only [go_sem, seval, vis0, squash0, read0, top0]
  repeat (first | (refine And.intro ?_ ?_; · first | exact ⟨rfl, by simp [AV.sz, AV.szs, AV.memOK]⟩) | refine peel ?_)
  refine callK_use Try.func38 rfl rfl rfl ((c_law_one 1 9 1 _ _)) ?_
  try simp only [go_sem, seval, vis0, squash0, read0, top0]
  repeat (first | (refine And.intro ?_ ?_; · first | exact ⟨rfl, by simp [AV.sz, AV.szs, AV.memOK]⟩) | refine peel ?_)
  refine callK_use Try.func38 rfl rfl rfl ((c_law_one 3 7 4 _ _)) ?_
  try simp only [go_sem, seval, vis0, squash0, read0, top0]
  repeat (first | (refine And.intro ?_ ?_; · first | exact ⟨rfl, by simp [AV.sz, AV.szs, AV.memOK]⟩) | refine peel ?_)
  refine callK_use Try.func38 rfl rfl rfl ((c_law_one 1 7 2 _ _)) ?_
  try simp only [go_sem, seval, vis0, squash0, read0, top0]
  repeat (first | (refine And.intro ?_ ?_; · first | exact ⟨rfl, by simp [AV.sz, AV.szs, AV.memOK]⟩) | refine peel ?_)
  refine hK _ _ _ ?_; clear hK K
  refine awp_reg zs [1, 2, 3] fun K hK => ?_
  try simp only [go_sem, seval, vis0, squash0, read0, top0]
  repeat refine peel ?_
  refine callK_use Try.func39 rfl rfl rfl ((c_law_family 2 10 _ _)) ?_
  try simp only [go_sem, seval, vis0, squash0, read0, top0]
  repeat refine peel ?_
  refine callK_use Try.func19 rfl rfl rfl ((c_retain_Vis (familyE 2 10) 12 l0 (by decide) _ _)) ?_
  try simp only [go_sem, seval, vis0, squash0, read0, top0]
  repeat refine peel ?_
  refine hK _ _ _ ?_; clear hK K
  refine awp_reg zs [1, 2, 3, 4, 5] fun K hK => ?_
  try simp only [go_sem, seval, vis0, squash0, read0, top0]
  repeat refine peel ?_
  refine callK_use Try.func39 rfl rfl rfl ((c_law_family 2 10 _ _)) ?_
  try simp only [go_sem, seval, vis0, squash0, read0, top0]
  repeat refine peel ?_
  refine callK_use Try.func15 rfl rfl rfl ((c_retain_Squash (familyE 2 10) 12 0 false l0 (by decide) _ _)) ?_
  try simp only [go_sem, seval, vis0, squash0, read0, top0]
  repeat refine peel ?_
  refine hK _ _ _ ?_; clear hK K
  refine awp_reg zs [1, 2, 3, 4, 5, 6, 7] fun K hK => ?_
  try simp only [go_sem, seval, vis0, squash0, read0, top0]
  repeat refine peel ?_
  refine callK_use Try.func39 rfl rfl rfl ((c_law_family 2 10 _ _)) ?_
  try simp only [go_sem, seval, vis0, squash0, read0, top0]
  repeat refine peel ?_
  refine callK_use Try.func24 rfl rfl rfl ((c_retain_Read (familyE 2 10) 12 12 1 l0 (by decide) _ _)) ?_
  try simp only [go_sem, seval, vis0, squash0, read0, top0]
  repeat refine peel ?_
  refine hK _ _ _ ?_; clear hK K
  refine awp_reg zs [2, 3, 4, 5, 6, 7, 8, 9] fun K hK => ?_
  try simp only [go_sem, seval, vis0, squash0, read0, top0]
  repeat refine peel ?_
  refine callK_use Try.func39 rfl rfl rfl ((c_law_family 2 10 _ _)) ?_
  try simp only [go_sem, seval, vis0, squash0, read0, top0]
  repeat refine peel ?_
  refine callK_use Try.func40 rfl rfl rfl ((c_retain_Top (familyE 2 10) 12 l0 (by decide) _ _)) ?_
  try simp only [go_sem, seval, vis0, squash0, read0, top0]
  repeat refine peel ?_
  refine hK _ _ _ ?_; clear hK K
  refine awp_seq_k fun K1 hK1 => ?_
  refine awp_reg zs [2, 4, 6, 75] fun K hK => ?_
  try simp only [go_sem, seval, vis0, squash0, read0, top0]
  repeat refine peel ?_
  refine callK_use Try.func16 rfl rfl rfl ((by apply c_law_num <;> first | assumption | omega)) ?_
  try simp only [go_sem, seval, vis0, squash0, read0, top0]
  repeat refine peel ?_
  refine callG_use Try.func16 rfl rfl rfl (fun _ => (by apply c_law_num <;> first | assumption | omega)) ?_
  try simp only [go_sem, seval, vis0, squash0, read0, top0]
  repeat refine peel ?_
  refine callG_use Try.func16 rfl rfl rfl (fun _ => (by apply c_law_num <;> first | assumption | omega)) ?_
  try simp only [go_sem, seval, vis0, squash0, read0, top0]
  repeat refine peel ?_
  refine callG_use Try.func16 rfl rfl rfl (fun _ => (by apply c_law_num <;> first | assumption | omega)) ?_
  try simp only [go_sem, seval, vis0, squash0, read0, top0]
  repeat refine peel ?_
  refine hK _ _ _ ?_; clear hK K
  refine awp_cnd (fun hb => ?_) (fun hb => ?_)
  ·skip
   refine awp_reg zs [0] fun K hK => ?_
   try simp only [go_sem, seval, vis0, squash0, read0, top0]
   repeat refine peel ?_
   refine hK _ _ _ ?_; clear hK K
   refine awp_ret ?_
   try simp only [go_sem, seval, vis0, squash0, read0, top0]
   first | (simp [sameE]; done) | exact absurd hb (by decide)
  ·skip
   refine awp_skip ?_
   try simp only [go_sem, seval, vis0, squash0, read0, top0]
   refine hK1 _ _ _ ?_
   first | clear hK1 K1 | skip
   refine awp_drw rfl zs [0] [.m, .q, .q, .c, .c, .m, .m, .q, .q, .c, .c, .q, .m, .m, .q, .q, .c, .c, .q, .m, .m, .q, .q, .c, .c, .q, .q] (by kernel_rfl) (fun _ _ _ _ _ h => h) fun K hK => ?_
   try simp only [go_sem, seval, vis0, squash0, read0, top0]
   repeat refine peel ?_
   refine callQG_use Try.func38 rfl rfl rfl (fun _ n => (by apply c_law_one <;> first | assumption | omega)) ?_
   try simp only [go_sem, seval, vis0, squash0, read0, top0]
   repeat refine peel ?_
   refine callQG_use Try.func41 rfl rfl rfl (fun _ n => (by apply c_ref3_Same <;> first | assumption | omega)) ?_
   try simp only [go_sem, seval, vis0, squash0, read0, top0]
   repeat refine peel ?_
   refine callQG_use Try.func38 rfl rfl rfl (fun _ n => (by apply c_law_one <;> first | assumption | omega)) ?_
   try simp only [go_sem, seval, vis0, squash0, read0, top0]
   repeat refine peel ?_
   refine callQG_use Try.func41 rfl rfl rfl (fun _ n => (by apply c_ref3_Same <;> first | assumption | omega)) ?_
   try simp only [go_sem, seval, vis0, squash0, read0, top0]
   repeat refine peel ?_
   refine callQG_use Try.func38 rfl rfl rfl (fun _ n => (by apply c_law_one <;> first | assumption | omega)) ?_
   try simp only [go_sem, seval, vis0, squash0, read0, top0]
   repeat refine peel ?_
   refine callQG_use Try.func41 rfl rfl rfl (fun _ n => (by apply c_ref3_Same <;> first | assumption | omega)) ?_
   try simp only [go_sem, seval, vis0, squash0, read0, top0]
   repeat refine peel ?_
   refine callQG_use Try.func38 rfl rfl rfl (fun _ n => (by apply c_law_one <;> first | assumption | omega)) ?_
   try simp only [go_sem, seval, vis0, squash0, read0, top0]
   repeat refine peel ?_
   refine callQG_use Try.func41 rfl rfl rfl (fun _ n => (by apply c_ref3_Same <;> first | assumption | omega)) ?_
   try simp only [go_sem, seval, vis0, squash0, read0, top0]
   repeat refine peel ?_
   refine hK _ _ _ ?_; clear hK K
   refine awp_ret ?_
   try simp only [go_sem, seval, vis0, squash0, read0, top0]
   first | (simp [sameE]; done) | exact absurd hb (by decide)
end Go.Proofs.Ytijhkfhflpmajaa
namespace Go.Sx
open Go Go.ChangeShapes
def c0 (W : World) : Ctx := ⟨fun _ _ => none, fun b => match W.heap[b]? with | some (.cells a _ _) => some a | _ => none⟩
theorem sim0 (W : World) : Sim (c0 W) (fun _ => none) 0 W where
  ro := fun b a h => by
    simp only [c0] at h
    split at h
    · rename_i a' ty fr hb; simp only [Option.some.injEq] at h; subst h; exact ⟨ty, fr, hb⟩
    · simp at h
  own := fun k o h => by simp at h
  sep := fun k o b h => by simp at h
  inj := fun k k' o o' b h => by simp at h
  fresh := fun k _ => ⟨rfl, fun v => rfl⟩
  vers := fun k o v h => by simp at h
structure BulkOK {H : Type} (B : DataW H → Nat) : Prop where
  lit : ∀ l, 1 ≤ B (.lit l)
  str : ∀ s : List UInt8, s.length ≤ B (.lit (.string s))
  nil : 1 ≤ B .nil
  slice : ∀ es sp, (es.map B).sum + 1 ≤ B (.slice es sp)
  agg : ∀ ps, (ps.map B).sum + 1 ≤ B (.agg ps)
section
variable {H : Type} (enc : TypeId × Value → H) (P : Program) (W : World) (B : DataW H → Nat)
def Reads (t : TypeId) (S : AV → Nat → Prop) : Prop :=
  ∀ fuel cs x, DataW.trod enc P W 0 (fun _ => true) true fuel t cs = some x → ∃ a m, S a m ∧ Rel (c0 W) a true cs ∧ m ≤ B x.1
variable {enc P W B}
theorem reads_int (hB : BulkOK B) {t : TypeId} {k : IntKind} (hu : P.underlying t = some (.int k)) : Reads enc P W B t fun a m => ∃ n, a = .int k n ∧ (Lit.int k n).wf = true ∧ m = 1 := fun fuel cs x h => by
  obtain ⟨n, rfl, rfl, hw⟩ := DataW.trod_int hu h
  exact ⟨_, 1, ⟨n, rfl, hw, rfl⟩, by simp [Rel], hB.lit _⟩
theorem reads_bool (hB : BulkOK B) {t : TypeId} (hu : P.underlying t = some .bool) : Reads enc P W B t fun a m => ∃ b, a = .bool b ∧ m = 1 := fun fuel cs x h => by
  obtain ⟨b, rfl, rfl⟩ := DataW.trod_bool hu h
  exact ⟨_, 1, ⟨b, rfl, rfl⟩, by simp [Rel], hB.lit _⟩
theorem reads_str (hB : BulkOK B) {t : TypeId} (hu : P.underlying t = some .string) : Reads enc P W B t fun a m => ∃ s, a = .str s ∧ m = s.length := fun fuel cs x h => by
  obtain ⟨s, rfl, rfl, _⟩ := DataW.trod_string hu h
  exact ⟨_, _, ⟨s.data.toList, rfl, rfl⟩, by simp [Rel], hB.str _⟩
def sSl (esz : Nat) (S : AV → Nat → Prop) (a : AV) (m : Nat) : Prop := ∃ xs : List (AV × Nat), a = .sl esz (xs.map (·.1)) ∧ (∀ y ∈ xs, S y.1 y.2) ∧ m = (xs.map (·.2)).sum + 1
theorem relF_flat {c : Ctx} (f : Nat → AV) (g : Nat → List Value) : ∀ (l : List Nat), (∀ i ∈ l, Rel c (f i) true (g i)) → RelF c (l.map f) (l.flatMap g)
  | [], _ => by simp [RelF]
  | i :: l, h => by
    simp only [List.map_cons, List.flatMap_cons, RelF]
    exact ⟨_, _, rfl, h i (by simp), relF_flat f g l fun j hj => h j (by simp [hj])⟩
theorem at_flat {arr : Array Value} {off esz : Nat} (g : Nat → List Value) : ∀ (n s : Nat), (∀ i, s ≤ i → i < s + n → (g i).length = esz ∧ At arr (off + i * esz) (g i)) → At arr (off + s * esz) ((List.range' s n).flatMap g)
  | 0, s, _ => by simp; exact At.nil
  | n + 1, s, h => by
    rw [List.range'_succ, List.flatMap_cons]
    obtain ⟨h1, h2⟩ := h s (Nat.le_refl _) (by omega)
    refine At.append.2 ⟨h2, ?_⟩
    rw [h1]
    have := at_flat g n (s + 1) fun i hi hi' => h i (by omega) (by omega)
    rw [Nat.add_mul, Nat.one_mul, ← Nat.add_assoc] at this
    exact this
theorem sum_le {α : Type} (f g : α → Nat) : ∀ (l : List α), (∀ x ∈ l, f x ≤ g x) → (l.map f).sum ≤ (l.map g).sum
  | [], _ => by simp
  | x :: l, h => by
    simp only [List.map_cons, List.sum_cons]
    have := sum_le f g l fun y hy => h y (by simp [hy])
    have := h x (by simp)
    omega
theorem reads_slice (hB : BulkOK B) {t e : TypeId} {esz : Nat} {S : AV → Nat → Prop} (hu : P.underlying t = some (.slice e)) (hsz : P.cellsOf e = esz) (hpos : 0 < esz) (hS : Reads enc P W B e S) (hSz : ∀ a m, S a m → a.sz = esz) :
    Reads enc P W B t (sSl esz S) := fun fuel cs x h => by
  subst hsz
  rcases DataW.trod_slice hu h with ⟨rfl, rfl⟩ | ⟨a, len, cap, elems, rest, n, rfl, rfl, rfl, _, hl, hm, hlen, hel, _, _⟩
  · refine ⟨.sl (P.cellsOf e) [], 1, ⟨[], rfl, by simp, rfl⟩, ?_, hB.nil⟩
    simp only [Rel]
    exact ⟨none, 0, rfl, Nat.le_refl _, by simp, .inl trivial⟩
  · have each : ∀ i, i < len → ∃ (y : AV × Nat) (ci : List Value), W.cells? 0 (a.add (i * P.cellsOf e)) (P.cellsOf e) = some ci ∧ S y.1 y.2 ∧ Rel (c0 W) y.1 true ci ∧ ∀ z, elems[i]? = some z → y.2 ≤ B z.1 := fun i hi => by
      have hz : elems[i]? = some elems[i] := List.getElem?_eq_getElem (by omega)
      have h1 := hel i hi
      rw [hz] at h1
      simp only [Option.bind_eq_some_iff] at h1
      obtain ⟨ci, h1, h2⟩ := h1
      obtain ⟨aa, m, h3, h4, h5⟩ := hS _ _ _ h2
      exact ⟨(aa, m), ci, h1, h3, h4, fun z hz' => by rw [hz] at hz'; cases hz'; exact h5⟩
    have each' : ∀ i, ∃ (y : AV × Nat) (ci : List Value), i < len → W.cells? 0 (a.add (i * P.cellsOf e)) (P.cellsOf e) = some ci ∧ S y.1 y.2 ∧ Rel (c0 W) y.1 true ci ∧ ∀ z, elems[i]? = some z → y.2 ≤ B z.1 := fun i => by
      by_cases hi : i < len
      · obtain ⟨y, ci, h⟩ := each i hi; exact ⟨y, ci, fun _ => h⟩
      · exact ⟨(.junk, 0), [], fun h => absurd h hi⟩
    let f : Nat → AV × Nat := fun i => Classical.choose (each' i)
    let g : Nat → List Value := fun i => Classical.choose (Classical.choose_spec (each' i))
    have hfg : ∀ i, i < len → W.cells? 0 (a.add (i * P.cellsOf e)) (P.cellsOf e) = some (g i) ∧ S (f i).1 (f i).2 ∧ Rel (c0 W) (f i).1 true (g i) ∧ ∀ z, elems[i]? = some z → (f i).2 ≤ B z.1 := fun i => Classical.choose_spec (Classical.choose_spec (each' i))
    clear_value f g
    refine ⟨.sl (P.cellsOf e) (((List.range' 0 len).map f).map (·.1)), _, ⟨(List.range' 0 len).map f, rfl, ?_, rfl⟩, ?_, ?_⟩
    · intro y hy
      obtain ⟨i, hi, rfl⟩ := List.mem_map.1 hy
      exact (hfg i (by simpa using hi)).2.1
    · simp only [Rel]
      refine ⟨some a, cap, by simp, by simpa using hl, ?_, ?_⟩
      · intro x hx
        simp only [List.map_map, List.mem_map, List.mem_range'_1] at hx
        obtain ⟨i, hi, rfl⟩ := hx
        exact hSz _ _ (hfg i (by omega)).2.1
      · by_cases h0 : len = 0
        · left; subst h0; rfl
        · right
          obtain ⟨b, off, spot⟩ := a
          have hc0 := (World.cells?_some (hfg 0 (by omega)).1).2.2 0 hpos
          have hl0 := (World.cells?_some (hfg 0 (by omega)).1).2.1
          have hv : ∃ v, (g 0)[0]? = some v := ⟨(g 0)[0], List.getElem?_eq_getElem (by omega)⟩
          obtain ⟨v, hv⟩ := hv
          rw [hv] at hc0
          have hspot : spot = none := by simpa [Addr.add] using World.cell?_spot hc0
          subst hspot
          have harr : ∃ arr ty fr, W.heap[b]? = some (.cells arr ty fr) := by
            simp only [Nat.zero_mul, Addr.add, if_true] at hc0
            unfold World.cell? at hc0
            cases hb : W.heap[b]? with
            | none => simp [hb] at hc0
            | some o => cases o <;> simp [hb] at hc0 ⊢
          obtain ⟨arr, ty, fr, hb⟩ := harr
          refine ⟨b, off, arr, (List.range' 0 len).flatMap g, rfl, by simp [c0, hb], ?_, ?_⟩
          · rw [List.map_map]
            exact relF_flat _ g _ fun i hi => (hfg i (by simpa using hi)).2.2.1
          · have := at_flat (arr := arr) (off := off) (esz := P.cellsOf e) g len 0 fun i _ hi => by
              obtain ⟨_, h2, h3⟩ := World.cells?_some (hfg i (by omega)).1
              refine ⟨h2, fun j v hj => ?_⟩
              have hjl : j < P.cellsOf e := by
                rcases Nat.lt_or_ge j (g i).length with h | h
                · omega
                · rw [List.getElem?_eq_none h] at hj; simp at hj
              have h4 := h3 j hjl
              rw [hj, Addr.add_plain, Addr.add_plain] at h4
              simp only [World.cell?, hb] at h4
              simpa using h4
            simpa using this
    · have h1 : (((List.range' 0 len).map f).map (·.2)).sum ≤ ((elems.map (·.1)).map B).sum := by
        have e1 : elems = (List.range' 0 len).map fun i => (elems[i]?).getD (.nil, []) := by
          apply List.ext_getElem?
          intro i
          by_cases hi : i < len
          · simp [List.getElem?_map, List.getElem?_range' hi, List.getElem?_eq_getElem (show i < elems.length by omega)]
          · rw [List.getElem?_eq_none (by omega), List.getElem?_eq_none (by simp; omega)]
        have e2 : ((elems.map (·.1)).map B) = (List.range' 0 len).map fun i => B ((elems[i]?).getD (.nil, [])).1 := by
          conv => lhs; rw [e1]
          simp [List.map_map, Function.comp_def]
        rw [e2, List.map_map]
        refine sum_le _ _ _ fun i hi => ?_
        have hi' : i < len := by simpa using hi
        exact (hfg i hi').2.2.2 _ (by rw [List.getElem?_eq_getElem (show i < elems.length by omega)]; rfl)
      have h2 := hB.slice (elems.map (·.1)) (rest.map (·.1))
      show _ ≤ B (.slice _ _)
      omega
def SAll : List (AV → Nat → Prop) → List (AV × Nat) → Prop
  | [], [] => True
  | S :: Ss, x :: xs => S x.1 x.2 ∧ SAll Ss xs
  | _, _ => False
def sAgg (Ss : List (AV → Nat → Prop)) (a : AV) (m : Nat) : Prop := ∃ xs : List (AV × Nat), a = .agg (xs.map (·.1)) ∧ SAll Ss xs ∧ m = (xs.map (·.2)).sum + 1
variable (enc P W B) in
def FldOK : List Field → List (AV → Nat → Prop) → Nat → Nat → Prop
  | [], [], off, total => off = total
  | f :: fs, S :: Ss, off, total => f.offset = off ∧ Reads enc P W B f.type S ∧ FldOK fs Ss (off + P.cellsOf f.type) total
  | _, _, _, _ => False
theorem fields_rel {n : Nat} {cs : List Value} : ∀ (fs : List Field) (Ss : List (AV → Nat → Prop)) (off : Nat) (ys : List (DataW H × List MemPlace)), FldOK enc P W B fs Ss off cs.length → ys.length = fs.length →
    (∀ (i : Nat) (f : Field), fs[i]? = some f → DataW.trod enc P W 0 (fun _ => true) true n f.type ((cs.drop f.offset).take (P.cellsOf f.type)) = ys[i]?) →
    ∃ xs, SAll Ss xs ∧ RelF (c0 W) (xs.map (·.1)) (cs.drop off) ∧ (xs.map (·.2)).sum ≤ ((ys.map (·.1)).map B).sum
  | [], [], off, ys, hf, hl, _ => by
    simp only [FldOK] at hf
    refine ⟨[], trivial, ?_, by simp⟩
    simp only [List.map_nil, RelF]
    exact List.drop_eq_nil_of_le (by omega)
  | f :: fs, S :: Ss, off, ys, hf, hl, hy => by
    simp only [FldOK] at hf
    obtain ⟨ho, hr, hf⟩ := hf
    cases ys with
    | nil => simp at hl
    | cons y ys =>
      have h0 := hy 0 f rfl
      simp only [List.getElem?_cons_zero] at h0
      obtain ⟨a, m, h1, h2, h3⟩ := hr _ _ _ h0
      obtain ⟨xs, h4, h5, h6⟩ := fields_rel fs Ss (off + P.cellsOf f.type) ys hf (by simpa using hl) fun i f' hi => by
        have := hy (i + 1) f' (by simpa using hi)
        simpa using this
      refine ⟨(a, m) :: xs, ⟨h1, h4⟩, ?_, by simp only [List.map_cons, List.sum_cons]; omega⟩
      simp only [List.map_cons, RelF]
      refine ⟨(cs.drop off).take (P.cellsOf f.type), cs.drop (off + P.cellsOf f.type), ?_, by rw [← ho]; exact h2, h5⟩
      rw [← List.drop_drop, List.take_append_drop]
  | [], _ :: _, _, _, hf, _, _ => by simp [FldOK] at hf
  | _ :: _, [], _, _, hf, _, _ => by simp [FldOK] at hf
theorem reads_struct (hB : BulkOK B) {t : TypeId} {fs : Array Field} {Ss : List (AV → Nat → Prop)} (hu : P.underlying t = some (.struct fs)) (hf : FldOK enc P W B fs.toList Ss 0 (P.cellsOf t)) : Reads enc P W B t (sAgg Ss) := fun fuel cs x h => by
  obtain ⟨ys, n, rfl, rfl, hl, hyl, hy⟩ := DataW.trod_struct hu h
  rw [← hl] at hf
  obtain ⟨xs, h1, h2, h3⟩ := fields_rel fs.toList Ss 0 ys hf (by simpa using hyl) fun i f hi => hy i f (by simpa using hi)
  refine ⟨.agg (xs.map (·.1)), _, ⟨xs, rfl, h1, rfl⟩, by simp only [Rel]; simpa using h2, ?_⟩
  have := hB.agg (ys.map (·.1))
  show _ ≤ B (.agg _)
  omega
theorem reads_arg {t : TypeId} {S : AV → Nat → Prop} (hr : Reads enc P W B t S) {v : Value} {d : DataW H} {ps : List MemPlace} (h : DataW.Trod enc P W 0 (fun _ => true) true t v d ps) :
    ∃ a m, S a m ∧ Rel (c0 W) a true v.cells.toList ∧ m ≤ B d := by
  obtain ⟨fuel, h⟩ := h
  exact hr _ _ _ h
end
theorem rel_flat {c : Ctx} {a : AV} {v : Value} (h : Rel c a true v.cells.toList) (ha : a.isAgg = true → ∃ cs, v = .agg cs) (hn : a.isAgg = false → v.cells = #[v]) : Rel c a false [v] := by
  cases hag : a.isAgg with
  | true =>
    obtain ⟨cs, rfl⟩ := ha hag
    cases a <;> simp [AV.isAgg] at hag
    simp only [Rel] at h ⊢
    exact ⟨cs, rfl, h⟩
  | false =>
    rw [hn hag] at h
    cases a <;> simp only [Rel] at h ⊢ <;> first | exact h | (simp [AV.isAgg] at hag; done) | skip
    · exact ⟨h.1, fun h => by simp at h⟩
    · obtain ⟨x, h1, _⟩ := h; exact ⟨x, h1, fun h => by simp at h⟩
end Go.Sx
namespace Go.Sx
open Go
theorem sSl_map {α : Type} {esz : Nat} {S : AV → Nat → Prop} {f : α → AV} {q : α → Nat} (h : ∀ a m, S a m → ∃ x, a = f x ∧ q x ≤ m ∧ 1 ≤ m) {a : AV} {m : Nat} (hs : sSl esz S a m) :
    ∃ l : List α, a = .sl esz (l.map f) ∧ l.length + 1 ≤ m ∧ ∀ x ∈ l, q x ≤ m := by
  obtain ⟨xs, rfl, hx, rfl⟩ := hs
  suffices hh : ∃ l : List α, xs.map (·.1) = l.map f ∧ l.length ≤ (xs.map (·.2)).sum ∧ ∀ x ∈ l, q x ≤ (xs.map (·.2)).sum by
    obtain ⟨l, h1, h2, h3⟩ := hh
    exact ⟨l, by rw [h1], by omega, fun x hx => by have := h3 x hx; omega⟩
  induction xs with
  | nil => exact ⟨[], rfl, by simp, by simp⟩
  | cons y ys ih =>
    obtain ⟨l, h1, h2, h3⟩ := ih fun z hz => hx z (by simp [hz])
    obtain ⟨x, h4, h5, h6⟩ := h y.1 y.2 (hx y (by simp))
    refine ⟨x :: l, by simp [h1, h4], by simp; omega, fun z hz => ?_⟩
    simp only [List.map_cons, List.sum_cons]
    rcases List.mem_cons.1 hz with rfl | hz
    · omega
    · have := h3 z hz; omega
theorem Ret.below {P : Program} {f : FuncId} {args : List AV} {W : World} {vs : List Value} {b : Bool} (h : Ret P f args (fun _ => none) 0 (.bool b) (fun _ => none) 0) (hr : RelT (c0 W) args vs) :
    Calls P f vs.toArray W fun e w' => e = .returned (.bool b) ∧ RowKit.Below W.heap.size W w' :=
  (h (c0 W) W vs (sim0 W) hr).mono fun e w' ⟨res, c', H', n', ⟨hres, _, _⟩, hst, hm⟩ => by
    subst hres
    refine ⟨?_, ?_⟩
    · cases e with
      | returned v => simp only [Rel, List.cons.injEq, and_true] at hm; rw [hm]
      | panicked _ => exact hm.elim
      | outgrown => exact hm.elim
    · have hf := hst.fr
      exact ⟨hf.os, hf.tape, hf.output, hf.size, fun k hk => hf.keep k hk fun ⟨_, _, h, _⟩ => by simp at h⟩
theorem SAll_cons {S : AV → Nat → Prop} {Ss : List (AV → Nat → Prop)} {xs : List (AV × Nat)} (h : SAll (S :: Ss) xs) : ∃ x ys, xs = x :: ys ∧ S x.1 x.2 ∧ SAll Ss ys := by
  cases xs with
  | nil => exact h.elim
  | cons x ys => exact ⟨x, ys, rfl, h.1, h.2⟩
theorem SAll_nil {xs : List (AV × Nat)} (h : SAll [] xs) : xs = [] := by
  cases xs with
  | nil => rfl
  | cons x ys => exact h.elim
theorem fld_cons {H : Type} {enc : TypeId × Value → H} {P : Program} {W : World} {B : DataW H → Nat} {f : Field} {fs : List Field} {S : AV → Nat → Prop} {Ss : List (AV → Nat → Prop)} {off off' total : Nat}
    (h1 : f.offset = off) (h2 : Reads enc P W B f.type S) (h3 : off + P.cellsOf f.type = off') (h4 : FldOK enc P W B fs Ss off' total) : FldOK enc P W B (f :: fs) (S :: Ss) off total := ⟨h1, h2, h3 ▸ h4⟩
theorem fld_nil {H : Type} {enc : TypeId × Value → H} {P : Program} {W : World} {B : DataW H → Nat} {off total : Nat} (h : off = total) : FldOK enc P W B [] [] off total := h
end Go.Sx
namespace Go.Proofs.Ytijhkfhflpmajaa
open Go Go.Sx Go.Rt Go.Proofs Go.ChangeShapes Go.WideShapes Go.ChangeAt Go.RowKit
theorem own9 : ownKnob Try.prog.godebug = none := by kernel_rfl
theorem laid9 : laidOutB Try.prog = true := by kernel_rfl
theorem bulkAll_sum {H : Type} : ∀ (l : List (DataW H)), Rows.uptoBulkAll l = (l.map Rows.uptoBulk).sum
  | [] => by simp [Rows.uptoBulkAll]
  | d :: l => by simp only [Rows.uptoBulkAll, List.map_cons, List.sum_cons]; rw [bulkAll_sum l]
theorem bulkOK {H : Type} : BulkOK (Rows.uptoBulk (H := H)) where
  lit := fun l => by cases l <;> simp [Rows.uptoBulk]
  str := fun s => by simp [Rows.uptoBulk]
  nil := by simp [Rows.uptoBulk]
  slice := fun es sp => by simp only [Rows.uptoBulk]; rw [bulkAll_sum es]; omega
  agg := fun ps => by simp only [Rows.uptoBulk]; rw [bulkAll_sum ps]; omega
section
variable {H : Type} {enc : TypeId × Value → H} {W : World}
def S64 (a : AV) (m : Nat) : Prop := ∃ n, a = .int .i64 n ∧ (Lit.int .i64 n).wf = true ∧ m = 1
def SU8 (a : AV) (m : Nat) : Prop := ∃ n, a = .int .u8 n ∧ (Lit.int .u8 n).wf = true ∧ m = 1
def SStr (a : AV) (m : Nat) : Prop := ∃ s, a = .str s ∧ m = s.length
def SBys := sSl 1 SU8
def SEnt := sAgg [SBys, S64, SBys, S64, S64, S64, SBys]
def SEnts := sSl 7 SEnt
def SFam := sAgg [SStr, S64, S64]
def SFams := sSl 3 SFam
def SSch := sAgg [SFams]
theorem su8_sz (a : AV) (m : Nat) (h : SU8 a m) : a.sz = 1 := by obtain ⟨n, rfl, _⟩ := h; rfl
theorem sBys_av {a : AV} {m : Nat} (h : SBys a m) : ∃ b : List UInt8, a = bys b ∧ b.length + 1 ≤ m := by
  obtain ⟨l, h1, h2, _⟩ := sSl_map (f := byteAV) (q := fun _ => 0) (fun a m ⟨n, h1, h2, h3⟩ => ⟨UInt8.ofNat n.toNat, by
    have hw : 0 ≤ n ∧ n ≤ 255 := by simpa [Lit.wf, IntKind.min, IntKind.max, IntKind.signed, IntKind.bits] using h2
    rw [h1]; simp only [byteAV]
    have : (UInt8.ofNat n.toNat).toNat = n.toNat := by simp; omega
    rw [this]; congr 1; omega, Nat.zero_le _, by omega⟩) h
  exact ⟨l, h1, h2⟩
theorem sEnt_av {a : AV} {m : Nat} (h : SEnt a m) : ∃ e : Ent, a = entAV e ∧ e.row.length + e.qual.length + e.value.length ≤ m ∧ 1 ≤ m := by
  obtain ⟨xs, rfl, hx, rfl⟩ := h
  obtain ⟨x0, xs, rfl, h0, hx⟩ := SAll_cons hx
  obtain ⟨x1, xs, rfl, h1, hx⟩ := SAll_cons hx
  obtain ⟨x2, xs, rfl, h2, hx⟩ := SAll_cons hx
  obtain ⟨x3, xs, rfl, h3, hx⟩ := SAll_cons hx
  obtain ⟨x4, xs, rfl, h4, hx⟩ := SAll_cons hx
  obtain ⟨x5, xs, rfl, h5, hx⟩ := SAll_cons hx
  obtain ⟨x6, xs, rfl, h6, hx⟩ := SAll_cons hx
  obtain rfl := SAll_nil hx
  · obtain ⟨b0, e0, l0⟩ := sBys_av h0
    obtain ⟨n1, e1, _, _⟩ := h1
    obtain ⟨b2, e2, l2⟩ := sBys_av h2
    obtain ⟨n3, e3, _, _⟩ := h3
    obtain ⟨n4, e4, _, _⟩ := h4
    obtain ⟨n5, e5, _, _⟩ := h5
    obtain ⟨b6, e6, l6⟩ := sBys_av h6
    refine ⟨⟨b0, n1, b2, n3, n4, n5, b6⟩, by simp [entAV, e0, e1, e2, e3, e4, e5, e6], ?_, by omega⟩
    simp only [List.map_cons, List.map_nil, List.sum_cons, List.sum_nil]
    omega
theorem sEnts_av {a : AV} {m : Nat} (h : SEnts a m) : ∃ l : List Ent, a = entsAV l ∧ l.length + 1 ≤ m ∧ ∀ e ∈ l, e.row.length + e.qual.length + e.value.length ≤ m :=
  sSl_map (q := fun e : Ent => e.row.length + e.qual.length + e.value.length) (fun a m h => by obtain ⟨e, h1, h2, h3⟩ := sEnt_av h; exact ⟨e, h1, h2, h3⟩) h
theorem sFam_av {a : AV} {m : Nat} (h : SFam a m) : ∃ e : Fml, a = famAV e ∧ 1 ≤ m := by
  obtain ⟨xs, rfl, hx, rfl⟩ := h
  obtain ⟨x0, xs, rfl, h0, hx⟩ := SAll_cons hx
  obtain ⟨x1, xs, rfl, h1, hx⟩ := SAll_cons hx
  obtain ⟨x2, xs, rfl, h2, hx⟩ := SAll_cons hx
  obtain rfl := SAll_nil hx
  · obtain ⟨b0, e0, _⟩ := h0
    obtain ⟨n1, e1, _, _⟩ := h1
    obtain ⟨n2, e2, _, _⟩ := h2
    exact ⟨⟨b0, n1, n2⟩, by simp [famAV, e0, e1, e2], by omega⟩
theorem sSch_av {a : AV} {m : Nat} (h : SSch a m) : ∃ s : List Fml, a = schAV s ∧ s.length ≤ m := by
  obtain ⟨xs, rfl, hx, rfl⟩ := h
  obtain ⟨x0, xs, rfl, h0, hx⟩ := SAll_cons hx
  obtain rfl := SAll_nil hx
  · obtain ⟨l, h1, h2, _⟩ := sSl_map (f := famAV) (q := fun _ => 0) (fun a m h => by obtain ⟨e, h1, h2⟩ := sFam_av h; exact ⟨e, h1, Nat.zero_le _, h2⟩) h0
    refine ⟨l, by simp [schAV, h1], ?_⟩
    simp only [List.map_cons, List.map_nil, List.sum_cons, List.sum_nil]
    omega
theorem r64 : Reads enc Try.prog W Rows.uptoBulk 3 S64 := reads_int bulkOK Try.underlying3
theorem rBys : Reads enc Try.prog W Rows.uptoBulk 36 SBys := reads_slice bulkOK Try.underlying36 (by kernel_rfl) (by decide) (reads_int bulkOK Try.underlying5) su8_sz
theorem rEnt : Reads enc Try.prog W Rows.uptoBulk 38 SEnt := reads_struct bulkOK Try.underlying38
  (fld_cons rfl rBys (off' := 1) (by kernel_rfl) (fld_cons rfl r64 (off' := 2) (by kernel_rfl) (fld_cons rfl rBys (off' := 3) (by kernel_rfl) (fld_cons rfl r64 (off' := 4) (by kernel_rfl) (fld_cons rfl r64 (off' := 5) (by kernel_rfl) (fld_cons rfl r64 (off' := 6) (by kernel_rfl) (fld_cons rfl rBys (off' := 7) (by kernel_rfl) (fld_nil (by kernel_rfl)))))))))
theorem sEnt_sz (a : AV) (m : Nat) (h : SEnt a m) : a.sz = 7 := by obtain ⟨e, rfl, _⟩ := sEnt_av h; exact entAV_sz e
theorem rEnts : Reads enc Try.prog W Rows.uptoBulk 25 SEnts := reads_slice bulkOK Try.underlying25 (by kernel_rfl) (by decide) rEnt sEnt_sz
theorem rFam : Reads enc Try.prog W Rows.uptoBulk 47 SFam := reads_struct bulkOK Try.underlying47
  (fld_cons rfl (reads_str bulkOK Try.underlying9) (off' := 1) (by kernel_rfl) (fld_cons rfl r64 (off' := 2) (by kernel_rfl) (fld_cons rfl r64 (off' := 3) (by kernel_rfl) (fld_nil (by kernel_rfl)))))
theorem sFam_sz (a : AV) (m : Nat) (h : SFam a m) : a.sz = 3 := by obtain ⟨e, rfl, _⟩ := sFam_av h; exact famAV_sz e
theorem rSch : Reads enc Try.prog W Rows.uptoBulk 24 SSch := reads_struct bulkOK Try.underlying24
  (fld_cons rfl (reads_slice bulkOK Try.underlying22 (by kernel_rfl) (by decide) rFam sFam_sz) (off' := 1) (by kernel_rfl) (fld_nil (by kernel_rfl)))
set_option maxRecDepth 100000 in
theorem argEnts {v : Value} {d : DataW H} {ps : List MemPlace} (hv : Value.okWide Try.prog W .any 0 25 v) (h : DataW.Trod enc Try.prog W 0 (fun _ => true) true 25 v d ps) :
    ∃ l : List Ent, Rel (c0 W) (entsAV l) false [v] ∧ l.length + 1 ≤ Rows.uptoBulk d ∧ ∀ e ∈ l, e.row.length + e.qual.length + e.value.length ≤ Rows.uptoBulk d := by
  obtain ⟨a, m, h1, h2, h3⟩ := reads_arg rEnts h
  obtain ⟨l, rfl, h4, h5⟩ := sEnts_av h1
  obtain ⟨aa, len, cap, rfl⟩ := okWide_slice Try.underlying25 hv
  exact ⟨l, rel_flat h2 (fun h => by simp [entsAV, AV.isAgg] at h) (fun _ => rfl), by omega, fun e he => by have := h5 e he; omega⟩
end
end Go.Proofs.Ytijhkfhflpmajaa
namespace Go.Proofs.Ytijhkfhflpmajaa
open Go Go.Sx Go.Rt Go.Proofs Go.ChangeShapes Go.WideShapes Go.ChangeAt Go.RowKit
section
variable {H : Type} {enc : TypeId × Value → H} {W : World}
end
end Go.Proofs.Ytijhkfhflpmajaa
namespace Go.Rt
open Go Go.Sx
inductive Tg where
  | free
  | sys (i : Nat)
  | b (i : Nat)
  | e (i : Nat)
  deriving DecidableEq
structure BS where
  k : Nat
  v : Nat
  l : Nat
  gk : Nat
  gv : Nat
instance : Inhabited BS := ⟨⟨0, 0, 0, 0, 0⟩⟩
def BS.av (s : BS) : AV := .osl s.k s.v 0 s.l
def BS.gav (s : BS) : AV := .osl s.gk s.gv 0 (2 * s.l + 70)
def ES.gav (s : BS) : AV := .osl s.gk s.gv 0 (3 * s.l + 20)
def mkB (i : Nat) : AV := .int .u8 ((1 + i % 250 : Nat) : Int)
def mkE (i : Nat) : AV := .agg [.nilsl, .int .i64 (-10 - (i : Int)), .nilsl, .int .i64 0, .int .i64 0, .int .i64 0, .nilsl]
theorem markW (i : Nat) (h : i < 4611686018427387904) : IntKind.u8.wrap (IntKind.i64.wrap (1 + (i : Int).tmod 250)) = ((1 + i % 250 : Nat) : Int) := by
  have h1 : (i : Int).tmod 250 = ((i % 250 : Nat) : Int) := by rw [Int.tmod_eq_emod_of_nonneg (by omega)]; omega
  rw [h1, w64 (by omega) (by omega), IntKind.wrap_u8]
  omega
def BOK (es : Nat) (mk : AV) (g : Nat) (H : Heap) (tg : Nat → Tg) (t : Tg) (s : BS) (ph : Nat) : Prop :=
  tg s.k = t ∧ (ph = 0 → ∃ X, H s.k = some (.arr s.v es X) ∧ X.length = s.l ∧ ∀ x ∈ X, x.sz = es) ∧ (ph = 1 → H s.k = some (.arr s.v es (List.replicate s.l mk))) ∧
    (ph = 2 → (∃ L, s.l ≤ L ∧ H s.k = some (.arr s.v es (List.replicate L mk))) ∧ tg s.gk = t ∧ H s.gk = some (.arr s.gv es (List.replicate g mk)))
theorem BOK.frame {es : Nat} {mk : AV} {g : Nat} {H H' : Heap} {tg : Nat → Tg} {t : Tg} {s : BS} {ph : Nat} (h : BOK es mk g H tg t s ph) (hH : ∀ k, tg k = t → H' k = H k) : BOK es mk g H' tg t s ph := by
  obtain ⟨h0, h1, h2, h3⟩ := h
  refine ⟨h0, fun e => ?_, fun e => (hH _ h0).trans (h2 e), fun e => ?_⟩
  · obtain ⟨X, a, b⟩ := h1 e; exact ⟨X, (hH _ h0).trans a, b⟩
  · obtain ⟨⟨L, a, b⟩, c, d⟩ := h3 e; exact ⟨⟨L, a, (hH _ h0).trans b⟩, c, (hH _ c).trans d⟩
theorem BOK.retag {es : Nat} {mk : AV} {g : Nat} {H : Heap} {tg tg' : Nat → Tg} {t : Tg} {s : BS} {ph : Nat} (h : BOK es mk g H tg t s ph) (ht : ∀ k, tg k = t → tg' k = t) : BOK es mk g H tg' t s ph := by
  obtain ⟨h0, h1, h2, h3⟩ := h
  exact ⟨ht _ h0, h1, h2, fun e => by obtain ⟨a, c, d⟩ := h3 e; exact ⟨a, ht _ c, d⟩⟩
structure BkA where
  kb : Nat
  kE : Nat
  kG : Nat
  kB : Nat
  kH : Nat
  vE : Nat
  vG : Nat
  vB : Nat
  vH : Nat
def ph (i a m : Nat) : Nat := if i < m then 2 else if i < a then 1 else 0
theorem ph2 {i a m : Nat} (h : i < m) : ph i a m = 2 := if_pos h
theorem ph1 {i a m : Nat} (h : m ≤ i) (h' : i < a) : ph i a m = 1 := by unfold ph; rw [if_neg (by omega), if_pos h']
theorem ph0 {i a m : Nat} (h : m ≤ a) (h' : a ≤ i) : ph i a m = 0 := by unfold ph; rw [if_neg (by omega), if_neg (by omega)]
def bookL (A : BkA) (bs : List BS) (m : Nat) (es : List BS) (p : Nat) : List AV := [.osl A.kE A.vE 0 es.length, .osl A.kG A.vG 0 p, .osl A.kB A.vB 0 bs.length, .osl A.kH A.vH 0 m, .nilsl]
structure Bk (H : Heap) (n : Nat) (tg : Nat → Tg) (A : BkA) (bs : List BS) (a m : Nat) (es : List BS) (c p : Nat) : Prop where
  lE : H A.kE = some (.arr A.vE 1 (es.map BS.av))
  lG : H A.kG = some (.arr A.vG 1 ((es.take p).map ES.gav))
  lB : H A.kB = some (.arr A.vB 1 (bs.map BS.av))
  lH : H A.kH = some (.arr A.vH 1 ((bs.take m).map BS.gav))
  tb : tg A.kb = .sys 0
  tE : tg A.kE = .sys 1
  tG : tg A.kG = .sys 2
  tB : tg A.kB = .sys 3
  tH : tg A.kH = .sys 4
  lt : ∀ k, tg k ≠ .free → k < n
  ma : m ≤ a
  ab : a ≤ bs.length
  pc : p ≤ c
  ce : c ≤ es.length
  okb : ∀ i, i < bs.length → BOK 1 (mkB i) (2 * (bs.getD i default).l + 70) H tg (.b i) (bs.getD i default) (ph i a m)
  oke : ∀ i, i < es.length → BOK 7 (mkE i) (3 * (es.getD i default).l + 20) H tg (.e i) (es.getD i default) (ph i c p)
  lb : ∀ s ∈ bs, s.l ≤ 140000
  le : ∀ s ∈ es, s.l ≤ 400000000
  nb : bs.length ≤ 1000000000000
  ne : es.length ≤ 1000000000
theorem Bk.frame {H H' : Heap} {n n' : Nat} {tg : Nat → Tg} {A : BkA} {bs : List BS} {a m : Nat} {es : List BS} {c p : Nat} (h : Bk H n tg A bs a m es c p) (hH : ∀ k, tg k ≠ .free → k ≠ A.kb → H' k = H k) (hn : n ≤ n') : Bk H' n' tg A bs a m es c p :=
  { h with
    lE := (hH _ (by rw [h.tE]; simp) (by intro e; have := h.tb; rw [← e, h.tE] at this; simp at this)).trans h.lE
    lG := (hH _ (by rw [h.tG]; simp) (by intro e; have := h.tb; rw [← e, h.tG] at this; simp at this)).trans h.lG
    lB := (hH _ (by rw [h.tB]; simp) (by intro e; have := h.tb; rw [← e, h.tB] at this; simp at this)).trans h.lB
    lH := (hH _ (by rw [h.tH]; simp) (by intro e; have := h.tb; rw [← e, h.tH] at this; simp at this)).trans h.lH
    lt := fun k hk => Nat.lt_of_lt_of_le (h.lt k hk) hn
    okb := fun i hi => (h.okb i hi).frame fun k hk => hH k (by rw [hk]; simp) (by intro e; have := h.tb; rw [← e, hk] at this; simp at this)
    oke := fun i hi => (h.oke i hi).frame fun k hk => hH k (by rw [hk]; simp) (by intro e; have := h.tb; rw [← e, hk] at this; simp at this) }
theorem getD_set_self {l : List BS} {i : Nat} {s : BS} (h : i < l.length) : (l.set i s).getD i default = s := by simp [List.getD, h]
theorem getD_set_ne {l : List BS} {i j : Nat} {s : BS} (h : j ≠ i) : (l.set i s).getD j default = l.getD j default := by simp [List.getD, List.getElem?_set_ne (Ne.symm h)]
theorem getD_mem {l : List BS} {i : Nat} (h : i < l.length) : l.getD i default ∈ l := by simp [List.getD, List.getElem?_eq_getElem h]
section
variable {H H' : Heap} {n n' : Nat} {tg : Nat → Tg} {A : BkA} {bs : List BS} {a m : Nat} {es : List BS} {c p : Nat}
theorem Bk.frame1 (h : Bk H n tg A bs a m es c p) {k0 : Nat} {t : Tg} (hk0 : tg k0 = t) (ht : ∀ i, t ≠ .sys i) (hH : ∀ k, k ≠ k0 → H' k = H k) :
    H' A.kE = H A.kE ∧ H' A.kG = H A.kG ∧ H' A.kB = H A.kB ∧ H' A.kH = H A.kH ∧ H' A.kb = H A.kb := by
  refine ⟨hH _ ?_, hH _ ?_, hH _ ?_, hH _ ?_, hH _ ?_⟩ <;> intro e
  · exact ht 1 (by rw [← hk0, ← e, h.tE])
  · exact ht 2 (by rw [← hk0, ← e, h.tG])
  · exact ht 3 (by rw [← hk0, ← e, h.tB])
  · exact ht 4 (by rw [← hk0, ← e, h.tH])
  · exact ht 0 (by rw [← hk0, ← e, h.tb])
theorem Bk.fill (h : Bk H n tg A bs a m es c p) (ha : a < bs.length) (hk : H' (bs.getD a default).k = some (.arr (bs.getD a default).v 1 (List.replicate (bs.getD a default).l (mkB a)))) (hH : ∀ k, k ≠ (bs.getD a default).k → H' k = H k) : Bk H' n tg A bs (a + 1) m es c p := by
  have ht := (h.okb a ha).1
  obtain ⟨f1, f2, f3, f4, _⟩ := h.frame1 ht (by simp) hH
  have h1 := h.ma
  have h2 := h.ab
  exact { h with
    lE := f1.trans h.lE
    lG := f2.trans h.lG
    lB := f3.trans h.lB
    lH := f4.trans h.lH
    ma := by omega
    ab := by omega
    okb := fun i hi => by
      by_cases e : i = a
      · subst e
        rw [ph1 (by omega) (by omega)]
        exact ⟨ht, fun e => by simp at e, fun _ => hk, fun e => by simp at e⟩
      · have : ph i (a + 1) m = ph i a m := by unfold ph; split; rfl; by_cases h9 : i < a; rw [if_pos h9, if_pos (by omega)]; rw [if_neg h9, if_neg (by omega)]
        rw [this]
        exact (h.okb i hi).frame fun k hk => hH k (by intro e9; rw [e9, ht] at hk; simp at hk; exact e hk.symm)
    oke := fun i hi => (h.oke i hi).frame fun k hk => hH k (by intro e9; rw [e9, ht] at hk; simp at hk) }
theorem Bk.fillE (h : Bk H n tg A bs a m es c p) (hc : c < es.length) (hk : H' (es.getD c default).k = some (.arr (es.getD c default).v 7 (List.replicate (es.getD c default).l (mkE c)))) (hH : ∀ k, k ≠ (es.getD c default).k → H' k = H k) : Bk H' n tg A bs a m es (c + 1) p := by
  have ht := (h.oke c hc).1
  obtain ⟨f1, f2, f3, f4, _⟩ := h.frame1 ht (by simp) hH
  have h1 := h.pc
  have h2 := h.ce
  exact { h with
    lE := f1.trans h.lE
    lG := f2.trans h.lG
    lB := f3.trans h.lB
    lH := f4.trans h.lH
    pc := by omega
    ce := by omega
    oke := fun i hi => by
      by_cases e : i = c
      · subst e
        rw [ph1 (by omega) (by omega)]
        exact ⟨ht, fun e => by simp at e, fun _ => hk, fun e => by simp at e⟩
      · have : ph i (c + 1) p = ph i c p := by unfold ph; split; rfl; by_cases h9 : i < c; rw [if_pos h9, if_pos (by omega)]; rw [if_neg h9, if_neg (by omega)]
        rw [this]
        exact (h.oke i hi).frame fun k hk => hH k (by intro e9; rw [e9, ht] at hk; simp at hk; exact e hk.symm)
    okb := fun i hi => (h.okb i hi).frame fun k hk => hH k (by intro e9; rw [e9, ht] at hk; simp at hk) }
def tgPut (tg : Nat → Tg) (k : Nat) (t : Tg) : Nat → Tg := fun j => if j = k then t else tg j
theorem tgPut_same (tg : Nat → Tg) (k : Nat) (t : Tg) : tgPut tg k t k = t := if_pos rfl
theorem tgPut_keep {tg : Nat → Tg} {k : Nat} {t : Tg} (h : tg k = t ∨ tg k = .free) {j : Nat} (hj : tg j ≠ .free) : tgPut tg k t j = tg j := by
  unfold tgPut; split
  · rename_i e; subst e; rcases h with h | h
    · exact h.symm
    · exact absurd h hj
  · rfl
theorem take_set_succ {l : List BS} {i : Nat} {s : BS} (h : i < l.length) (f : BS → AV) : ((l.set i s).take (i + 1)).map f = (l.take i).map f ++ [f s] := by
  rw [List.take_succ_eq_append_getElem (by simpa using h), List.getElem_set_self, List.take_set_of_le (Nat.le_refl _)]; simp
theorem Bk.grow (h : Bk H n tg A bs a m es c p) (hm : m < a) (hn : n ≤ n') {gk gv L : Nat} (hg : gk = (bs.getD m default).k ∨ n ≤ gk) (hgn : gk < n') (hL : (bs.getD m default).l ≤ L)
    (hk : H' (bs.getD m default).k = some (.arr (bs.getD m default).v 1 (List.replicate L (mkB m)))) (hgk : H' gk = some (.arr gv 1 (List.replicate (2 * (bs.getD m default).l + 70) (mkB m))))
    {vH : Nat} (hkH : H' A.kH = some (.arr vH 1 ((bs.take m).map BS.gav ++ [.osl gk gv 0 (2 * (bs.getD m default).l + 70)])))
    (hH : ∀ k, tg k ≠ .free → k ≠ (bs.getD m default).k → k ≠ A.kH → k ≠ A.kb → H' k = H k) :
    Bk H' n' (tgPut tg gk (.b m)) { A with vH := vH } (bs.set m { bs.getD m default with gk := gk, gv := gv }) a (m + 1) es c p := by
  have h1 := h.ab
  have hml : m < bs.length := by omega
  have ht := (h.okb m hml).1
  have hfr : ∀ k, n ≤ k → tg k = .free := fun k hk => Classical.byContradiction fun hne => by have := h.lt k hne; omega
  have hgt : tg gk = .b m ∨ tg gk = .free := by rcases hg with e | e; rw [e]; exact .inl ht; exact .inr (hfr _ e)
  have kp : ∀ {j}, tg j ≠ .free → tgPut tg gk (.b m) j = tg j := fun hj => tgPut_keep hgt hj
  have ne : ∀ {k t}, tg k = t → t ≠ .b m → t ≠ .sys 4 → t ≠ .sys 0 → t ≠ .free → H' k = H k := fun {k t} e1 e2 e3 e4 e5 => hH k (by rw [e1]; exact e5) (by intro e; rw [e, ht] at e1; exact e2 e1.symm) (by intro e; rw [e, h.tH] at e1; exact e3 e1.symm) (by intro e; rw [e, h.tb] at e1; exact e4 e1.symm)
  exact {
    lE := (ne h.tE (by simp) (by simp) (by simp) (by simp)).trans h.lE
    lG := (ne h.tG (by simp) (by simp) (by simp) (by simp)).trans h.lG
    lB := by
      rw [ne h.tB (by simp) (by simp) (by simp) (by simp), h.lB]
      congr 2
      refine List.ext_getElem (by simp) fun i h5 h6 => ?_
      simp only [List.getElem_map, List.getElem_set]
      split
      · rename_i e; subst e; simp [BS.av, List.getD, List.getElem?_eq_getElem hml]
      · rfl
    lH := by rw [take_set_succ hml]; exact hkH
    tb := (kp (by rw [h.tb]; simp)).trans h.tb
    tE := (kp (by rw [h.tE]; simp)).trans h.tE
    tG := (kp (by rw [h.tG]; simp)).trans h.tG
    tB := (kp (by rw [h.tB]; simp)).trans h.tB
    tH := (kp (by rw [h.tH]; simp)).trans h.tH
    lt := fun k hk => by
      by_cases e : k = gk
      · omega
      · have : tgPut tg gk (.b m) k = tg k := if_neg e
        rw [this] at hk
        have := h.lt k hk; omega
    ma := by omega
    ab := by simpa using h1
    pc := h.pc
    ce := h.ce
    okb := fun i hi => by
      have hi : i < bs.length := by simpa using hi
      by_cases e : i = m
      · subst e
        rw [getD_set_self hml, ph2 (by omega)]
        exact ⟨(kp (by rw [ht]; simp)).trans ht, fun e => by simp at e, fun e => by simp at e, fun _ => ⟨⟨L, hL, hk⟩, tgPut_same _ _ _, hgk⟩⟩
      · have : ph i a (m + 1) = ph i a m := by unfold ph; by_cases h9 : i < m; rw [if_pos h9, if_pos (by omega)]; rw [if_neg h9, if_neg (by omega)]
        rw [getD_set_ne e, this]
        exact ((h.okb i hi).frame fun k hk => ne hk (by simp; omega) (by simp) (by simp) (by simp)).retag fun k hk => (kp (by rw [hk]; simp)).trans hk
    oke := fun i hi => ((h.oke i hi).frame fun k hk => ne hk (by simp) (by simp) (by simp) (by simp)).retag fun k hk => (kp (by rw [hk]; simp)).trans hk
    lb := fun s hs => by
      rcases List.mem_or_eq_of_mem_set hs with h9 | h9
      · exact h.lb s h9
      · rw [h9]; exact h.lb (bs.getD m default) (getD_mem hml)
    le := h.le
    nb := by simpa using h.nb
    ne := h.ne }
theorem Bk.growE (h : Bk H n tg A bs a m es c p) (hp : p < c) (hn : n ≤ n') {gk gv L : Nat} (hg : gk = (es.getD p default).k ∨ n ≤ gk) (hgn : gk < n') (hL : (es.getD p default).l ≤ L)
    (hk : H' (es.getD p default).k = some (.arr (es.getD p default).v 7 (List.replicate L (mkE p)))) (hgk : H' gk = some (.arr gv 7 (List.replicate (3 * (es.getD p default).l + 20) (mkE p))))
    {vG : Nat} (hkG : H' A.kG = some (.arr vG 1 ((es.take p).map ES.gav ++ [.osl gk gv 0 (3 * (es.getD p default).l + 20)])))
    (hH : ∀ k, tg k ≠ .free → k ≠ (es.getD p default).k → k ≠ A.kG → k ≠ A.kb → H' k = H k) :
    Bk H' n' (tgPut tg gk (.e p)) { A with vG := vG } bs a m (es.set p { es.getD p default with gk := gk, gv := gv }) c (p + 1) := by
  have h1 := h.ce
  have hml : p < es.length := by omega
  have ht := (h.oke p hml).1
  have hfr : ∀ k, n ≤ k → tg k = .free := fun k hk => Classical.byContradiction fun hne => by have := h.lt k hne; omega
  have hgt : tg gk = .e p ∨ tg gk = .free := by rcases hg with e | e; rw [e]; exact .inl ht; exact .inr (hfr _ e)
  have kp : ∀ {j}, tg j ≠ .free → tgPut tg gk (.e p) j = tg j := fun hj => tgPut_keep hgt hj
  have ne : ∀ {k t}, tg k = t → t ≠ .e p → t ≠ .sys 2 → t ≠ .sys 0 → t ≠ .free → H' k = H k := fun {k t} e1 e2 e3 e4 e5 => hH k (by rw [e1]; exact e5) (by intro e; rw [e, ht] at e1; exact e2 e1.symm) (by intro e; rw [e, h.tG] at e1; exact e3 e1.symm) (by intro e; rw [e, h.tb] at e1; exact e4 e1.symm)
  exact {
    lE := by
      rw [ne h.tE (by simp) (by simp) (by simp) (by simp), h.lE]
      congr 2
      refine List.ext_getElem (by simp) fun i h5 h6 => ?_
      simp only [List.getElem_map, List.getElem_set]
      split
      · rename_i e; subst e; simp [BS.av, List.getD, List.getElem?_eq_getElem hml]
      · rfl
    lG := by rw [take_set_succ hml]; exact hkG
    lB := (ne h.tB (by simp) (by simp) (by simp) (by simp)).trans h.lB
    lH := (ne h.tH (by simp) (by simp) (by simp) (by simp)).trans h.lH
    tb := (kp (by rw [h.tb]; simp)).trans h.tb
    tE := (kp (by rw [h.tE]; simp)).trans h.tE
    tG := (kp (by rw [h.tG]; simp)).trans h.tG
    tB := (kp (by rw [h.tB]; simp)).trans h.tB
    tH := (kp (by rw [h.tH]; simp)).trans h.tH
    lt := fun k hk => by
      by_cases e : k = gk
      · omega
      · have : tgPut tg gk (.e p) k = tg k := if_neg e
        rw [this] at hk
        have := h.lt k hk; omega
    ma := h.ma
    ab := h.ab
    pc := by omega
    ce := by simpa using h1
    oke := fun i hi => by
      have hi : i < es.length := by simpa using hi
      by_cases e : i = p
      · subst e
        rw [getD_set_self hml, ph2 (by omega)]
        exact ⟨(kp (by rw [ht]; simp)).trans ht, fun e => by simp at e, fun e => by simp at e, fun _ => ⟨⟨L, hL, hk⟩, tgPut_same _ _ _, hgk⟩⟩
      · have : ph i c (p + 1) = ph i c p := by unfold ph; by_cases h9 : i < p; rw [if_pos h9, if_pos (by omega)]; rw [if_neg h9, if_neg (by omega)]
        rw [getD_set_ne e, this]
        exact ((h.oke i hi).frame fun k hk => ne hk (by simp; omega) (by simp) (by simp) (by simp)).retag fun k hk => (kp (by rw [hk]; simp)).trans hk
    okb := fun i hi => ((h.okb i hi).frame fun k hk => ne hk (by simp) (by simp) (by simp) (by simp)).retag fun k hk => (kp (by rw [hk]; simp)).trans hk
    lb := h.lb
    le := fun s hs => by
      rcases List.mem_or_eq_of_mem_set hs with h9 | h9
      · exact h.le s h9
      · rw [h9]; exact h.le (es.getD p default) (getD_mem hml)
    nb := h.nb
    ne := by simpa using h.ne }
end
theorem fill_step {mk : AV} {X : List AV} {j : Nat} (h : j < X.length) : (List.replicate j mk ++ X.drop j).set j mk = List.replicate (j + 1) mk ++ X.drop (j + 1) := by
  rw [List.set_append_right _ _ (by simp), List.length_replicate, Nat.sub_self, List.drop_eq_getElem_cons h, List.set_cons_zero, List.replicate_succ', List.append_assoc]; rfl
theorem fill_len {mk : AV} {X : List AV} {j : Nat} (h : j ≤ X.length) : (List.replicate j mk ++ X.drop j).length = X.length := by simp; omega
theorem fill_nth {mk : AV} {X : List AV} {j e : Nat} (h : j < X.length) (hX : ∀ x ∈ X, x.sz = e) : (nth (List.replicate j mk ++ X.drop j) j).sz = e := by
  have : nth (List.replicate j mk ++ X.drop j) j = X[j] := by simp [nth, List.getD, List.getElem?_append_right, h]
  rw [this]; exact hX _ (List.getElem_mem h)
theorem fill_all {mk : AV} {X : List AV} : List.replicate X.length mk ++ X.drop X.length = List.replicate X.length mk := by simp
theorem grow_old {H1 H2 : Heap} {k gk ver gv l i L n1 es : Nat} {mk : AV} (hkn : k < n1) (h1 : H1 k = some (.arr ver es (List.replicate L mk))) (hL : l ≤ L) (hg : H1 gk = some (.arr gv es (List.replicate (l + i) mk)))
    (h2 : H2 gk = some (.arr gv es (List.replicate (l + i) mk)) ∨ H2 gk = some (.arr gv es (List.replicate (l + i) mk ++ [mk]))) (hr : ∀ j, j < n1 → j ≠ gk → H2 j = H1 j) : ∃ L', l ≤ L' ∧ H2 k = some (.arr ver es (List.replicate L' mk)) := by
  by_cases e : k = gk
  · subst e
    rw [h1] at hg
    simp only [Option.some.injEq, AObj.arr.injEq] at hg
    obtain ⟨rfl, _, _⟩ := hg
    rcases h2 with h2 | h2
    · exact ⟨l + i, by omega, h2⟩
    · exact ⟨l + i + 1, by omega, by rw [h2, List.replicate_succ']⟩
  · exact ⟨L, hL, (hr k hkn e).trans h1⟩
def newB (x : LEnt) : List BS := [⟨x.r.k, x.r.ver, x.e.row.length, 0, 0⟩, ⟨x.q.k, x.q.ver, x.e.qual.length, 0, 0⟩, ⟨x.v.k, x.v.ver, x.e.value.length, 0, 0⟩]
theorem newB_len (xs : List LEnt) : (xs.flatMap newB).length = 3 * xs.length := by
  induction xs with
  | nil => rfl
  | cons x xs ih => rw [List.flatMap_cons, List.length_append, ih]; simp [newB]; omega
theorem newB_snoc (xs : List LEnt) (i : Nat) (h : i < xs.length) : (xs.take (i + 1)).flatMap newB = (xs.take i).flatMap newB ++ newB (xs.getD i default) := by
  rw [List.take_succ_eq_append_getElem h, List.flatMap_append]
  simp [List.getD, List.getElem?_eq_getElem h]
theorem newB_ks (xs : List LEnt) : (xs.flatMap newB).map (·.k) = xs.flatMap LEnt.ks := by
  induction xs with
  | nil => rfl
  | cons x xs ih => rw [List.flatMap_cons, List.map_append, ih, List.flatMap_cons]; rfl
def tgAns (tg : Nat → Tg) (nb ne ko : Nat) (ks : List Nat) : Nat → Tg := fun k => if k = ko then .e ne else if k ∈ ks then .b (nb + ks.idxOf k) else tg k
theorem Lp.mine.bok {H : Heap} {lo hi : Nat} {p : Lp} {b : List UInt8} (h : p.mine H lo hi b) : ∃ X, H p.k = some (.arr p.ver 1 X) ∧ X.length = b.length ∧ ∀ x ∈ X, x.sz = 1 := by
  refine ⟨_, h.at', by rw [h.els]; simp, fun x hx => ?_⟩
  rw [h.els] at hx
  obtain ⟨y, _, rfl⟩ := List.mem_map.1 hx
  rfl
theorem newB_mem {H : Heap} {lo hi : Nat} {xs : List LEnt} (h : MineL H lo hi xs) {s : BS} (hs : s ∈ xs.flatMap newB) : (∃ X, H s.k = some (.arr s.v 1 X) ∧ X.length = s.l ∧ ∀ x ∈ X, x.sz = 1) ∧ lo ≤ s.k ∧ s.k < hi ∧ (∃ x ∈ xs, s.l = x.e.row.length ∨ s.l = x.e.qual.length ∨ s.l = x.e.value.length) := by
  obtain ⟨x, hx, hs⟩ := List.mem_flatMap.1 hs
  have hm := h.all x hx
  simp only [newB, List.mem_cons, List.not_mem_nil, or_false] at hs
  rcases hs with rfl | rfl | rfl
  · exact ⟨hm.r.bok, hm.r.lo, hm.r.hi, x, hx, .inl rfl⟩
  · exact ⟨hm.q.bok, hm.q.lo, hm.q.hi, x, hx, .inr (.inl rfl)⟩
  · exact ⟨hm.v.bok, hm.v.lo, hm.v.hi, x, hx, .inr (.inr rfl)⟩
theorem getD_app_lt {l m : List BS} {i : Nat} (h : i < l.length) : (l ++ m).getD i default = l.getD i default := by simp [List.getD, List.getElem?_append_left h]
theorem getD_app_ge {l m : List BS} {i : Nat} (h : l.length ≤ i) : (l ++ m).getD i default = m.getD (i - l.length) default := by simp [List.getD, List.getElem?_append_right h]
structure An where
  ko : Nat
  ver : Nat
  xs : List LEnt
instance : Inhabited An := ⟨⟨0, 0, []⟩⟩
def AnsL (H : Heap) : Nat → List An → Nat → Prop
  | lo, [], hi => lo ≤ hi
  | lo, a :: az, hi => ∃ mid, OwnA H lo mid a.ko a.ver a.xs ∧ AnsL H mid az hi
theorem AnsL.le {H : Heap} : ∀ {az : List An} {lo hi : Nat}, AnsL H lo az hi → lo ≤ hi
  | [], _, _, h => h
  | a :: az, lo, hi, ⟨mid, h1, h2⟩ => by have := AnsL.le h2; have := h1.ge; have := h1.lt; omega
theorem AnsL.mono {H H' : Heap} : ∀ {az : List An} {lo hi : Nat}, AnsL H lo az hi → (∀ k, lo ≤ k → k < hi → H' k = H k) → AnsL H' lo az hi
  | [], _, _, h, _ => h
  | a :: az, lo, hi, ⟨mid, h1, h2⟩, hH => ⟨mid, h1.mono (fun k h3 h4 => hH k h3 (by have := AnsL.le h2; omega)) (Nat.le_refl _), AnsL.mono h2 fun k h3 h4 => hH k (by have := h1.ge; have := h1.lt; omega) h4⟩
def tg5 (n : Nat) : Nat → Tg := fun k => if k = n + 1 then .sys 0 else if k = n + 2 then .sys 1 else if k = n + 3 then .sys 2 else if k = n + 4 then .sys 3 else if k = n + 5 then .sys 4 else .free
theorem Bk.init {G : Heap} {n n' : Nat} (h2 : G (n + 2) = some (.arr 0 1 [])) (h3 : G (n + 3) = some (.arr 0 1 [])) (h4 : G (n + 4) = some (.arr 0 1 [])) (h5 : G (n + 5) = some (.arr 0 1 [])) (hn : n + 6 ≤ n') :
    Bk G n' (tg5 n) ⟨n + 1, n + 2, n + 3, n + 4, n + 5, 0, 0, 0, 0⟩ [] 0 0 [] 0 0 where
  lE := h2
  lG := h3
  lB := h4
  lH := h5
  tb := by simp [tg5]
  tE := by simp [tg5]
  tG := by simp [tg5]
  tB := by simp [tg5]
  tH := by simp [tg5]
  lt := fun k hk => by
    by_cases h : k < n'
    · exact h
    · exfalso; apply hk; unfold tg5
      rw [if_neg (by omega), if_neg (by omega), if_neg (by omega), if_neg (by omega), if_neg (by omega)]
  ma := Nat.le_refl _
  ab := Nat.le_refl _
  pc := Nat.le_refl _
  ce := Nat.le_refl _
  okb := fun i hi => by simp at hi
  oke := fun i hi => by simp at hi
  lb := fun s hs => by cases hs
  le := fun s hs => by cases hs
  nb := by simp
  ne := by simp
theorem tg5_free {n k : Nat} (h : k ≤ n ∨ n + 6 ≤ k) : tg5 n k = .free := by
  unfold tg5
  rw [if_neg (by omega), if_neg (by omega), if_neg (by omega), if_neg (by omega), if_neg (by omega)]
theorem tgAns_free {tg : Nat → Tg} {nb ne ko : Nat} {ks : List Nat} {k : Nat} (h1 : k ≠ ko) (h2 : k ∉ ks) : tgAns tg nb ne ko ks k = tg k := by unfold tgAns; rw [if_neg h1, if_neg h2]
theorem OwnA.out {H : Heap} {lo hi ko ver : Nat} {xs : List LEnt} (h : OwnA H lo hi ko ver xs) (tg : Nat → Tg) (nb ne : Nat) {k : Nat} (hk : k < lo ∨ hi ≤ k) : tgAns tg nb ne ko (xs.flatMap LEnt.ks) k = tg k :=
  tgAns_free (by have := h.ge; have := h.lt; omega) (fun hin => by have := h.mine.in' hin; omega)
end Go.Rt