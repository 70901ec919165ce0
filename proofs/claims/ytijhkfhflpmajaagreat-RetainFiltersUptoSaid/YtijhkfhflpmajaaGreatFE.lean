/- Own layer: walks through the walk over entries. Of the program; no condition. -/
import Derived.Test.YtijhkfhflpmajaaGreatFC
import Derived.Test.YtijhkfhflpmajaaGreatFD
import Derived.Test.YtijhkfhflpmajaaGreatFB
set_option linter.unusedSimpArgs false
set_option linter.unusedVariables false
namespace Go.Proofs.YtijhkfhflpmajaaGreat
open Go Go.Sx Go.Rt Go.Proofs
theorem c_retain_decided_out (d : Dec) (H : Heap) (n : Nat) : Ret Tryz.prog 112 [decAV d] H n (.bool (outD d)) H n := by
  refine Ret.fin ?_
  refine acalls_of_awp Tryz.func112 rfl Tryz.ntmps112 (congrArg Array.toList Tryz.results112) (by simp) ?_
  simp only [go_sem]
  refine awp_rq zs [1] ?_
  refine awp_rq zs [2] ?_
  refine awp_ret ?_
  try simp only [go_sem, seval]
  refine ⟨_, rfl, ?_, Frz.eq (by simp [outD]) trivial⟩
  intro k hk; have h0 : k ≠ n := by omega
  simp [Heap.put, h0]
theorem c_retain_walk_version (T : Tk Tryz.prog) (ok : T.σ → Prop) (hT : TkOK T ok) (w : Wlk) (st : T.σ) (e : Ent) (H : Heap) (n : Nat) (ha : Ahead T H n w st) (hok : ok st) :
    ACalls Tryz.prog 111 [.loc T.kw 0 0 0 [], entAV e] H n (LeftU T H n (verW w e) (verT T w st)) := by
  obtain ⟨hkw, hkeys, hw, htk⟩ := ha
  have hnk : ∀ j, (T.kw = n + j) = False := fun j => by simp; omega
  have hnk0 : (T.kw = n) = False := by simp; omega
  have hkn : ∀ j, (n + j = T.kw) = False := fun j => by simp; omega
  have hkn0 : (n = T.kw) = False := by simp; omega
  simp only [walkAV, tkAV] at hw
  refine acalls_of_awp Tryz.func111 rfl Tryz.ntmps111 (congrArg Array.toList Tryz.results111) (by simp) ?_
  simp only [go_sem]
  refine awp_reg zs [0, 3] fun K hK => ?_
  try simp only [go_sem, seval]
  refine hK _ _ _ ?_; clear hK K
  refine awp_seq_k fun K1 hK1 => ?_
  refine awp_reg zs [0, 3, 8] fun K hK => ?_
  try simp only [go_sem, seval, hw, hnk0]
  refine hK _ _ _ ?_; clear hK K
  refine awp_cnd (fun hb => ?_) (fun hb => ?_)
  ·skip
   have hop : w.opn = false := by simpa using hb
   refine awp_drw rfl zs [] [.m, .m, .q, .q, .q, .q, .q, .q, .q, .w [2, 3, 4, 5, 6], .q, .q, .w []] (by kernel_rfl) (fun _ _ _ _ _ h => h) fun K hK => ?_
   try simp only [go_sem, seval, hw, hnk0, hkn0]
   repeat refine peel ?_
   refine hK _ _ _ ?_; clear hK K
   refine awp_ret ?_
   try simp only [go_sem, seval]
   first
   | (refine ⟨rfl, ?_⟩
      rw [hvw, show verT T w st = T.old st by simp [verT, hop]]
      refine hL.up (by omega) fun k hk h1 h2 => ?_
      have h3 : k ≠ n := by omega
      simp [Heap.put, h1, h3])
   | (refine ⟨rfl, by omega, ?_, ?_, fun k hk h1 h2 => ?_⟩
      · simp [Heap.put, verW, hop, walkAV, tkAV, entAV, schAV, bys]
      · rw [show verT T w st = st by simp [verT, hop]]
        refine T.ext st H _ n _ (by omega) (fun k hk h2 => ?_) htk
        have h1 : k ≠ n := by omega
        simp [Heap.put, h1, h2]
      · have h3 : k ≠ n := by omega
        simp [Heap.put, h1, h3])
  ·skip
   have hop : w.opn = true := by simpa using hb
   refine awp_skip ?_
   try simp only [go_sem, seval]
   refine hK1 _ _ _ ?_
   first | clear hK1 K1 | skip
   refine awp_seq_k fun K2 hK2 => ?_
   refine awp_reg zs [0, 22] fun K hK => ?_
   try simp only [go_sem, seval]
   refine hK _ _ _ ?_; clear hK K
   refine awp_cnd (fun hb => ?_) (fun hb => ?_)
   ·skip
    have hkd : e.kind ≠ 3 := by simpa using hb
    obtain ⟨w1, hw1⟩ : ∃ w1, w1 = { w with lone := false } := ⟨_, rfl⟩
    have hvw : verW w e = w1 := by rw [hw1]; simp [verW, hop, hkd]
    refine awp_reg1 zs [0] fun K hK => ?_
    try simp only [go_sem, seval, hw, hnk0]
    refine hK _ _ _ ?_; clear hK K
    try simp only [go_sem, seval]
    refine hK2 _ _ _ ?_
    first | clear hK2 K2 | skip
    refine awp_reg1 zs [] fun K hK => ?_
    try simp only [go_sem, seval]
    obtain ⟨fn0, hf0, hb0, hn0⟩ := T.fo
    refine callK_useK hf0 hb0 hn0 rfl (hT.co w1 st _ _ ⟨by omega, fun k hk => by have := hkeys k hk; omega, ?_, T.ext st H _ n _ (by omega) ?_ htk⟩ hok) ?_ ?_
    · subst hw1; simp [Heap.put, hnk, hnk0, hkn0, hw, walkAV, tkAV, entAV, schAV, bys]
    · intro k hk h2; have h1 : k ≠ n := by omega
      simp [Heap.put, h1, h2]
    rotate_left
    · intro p H' n' h; cases h.1
    intro r H2 n2 ⟨hr2, hL⟩
    cases hr2
    refine hK _ _ _ ?_; clear hK K
    try simp only [go_sem, seval]
    first
    | (refine ⟨rfl, ?_⟩
       rw [hvw, show verT T w st = T.old st by simp [verT, hop]]
       refine hL.up (by omega) fun k hk h1 h2 => ?_
       have h3 : k ≠ n := by omega
       simp [Heap.put, h1, h3])
    | (refine ⟨rfl, by omega, ?_, ?_, fun k hk h1 h2 => ?_⟩
       · simp [Heap.put, verW, hop, walkAV, tkAV, entAV, schAV, bys]
       · rw [show verT T w st = st by simp [verT, hop]]
         refine T.ext st H _ n _ (by omega) (fun k hk h2 => ?_) htk
         have h1 : k ≠ n := by omega
         simp [Heap.put, h1, h2]
       · have h3 : k ≠ n := by omega
         simp [Heap.put, h1, h3])
   ·skip
    have hkd : e.kind = 3 := by simpa using hb
    obtain ⟨w1, hw1⟩ : ∃ w1, w1 = w := ⟨_, rfl⟩
    have hvw : verW w e = w1 := by rw [hw1]; simp [verW, hop, hkd]; cases w; simp_all
    refine awp_skip ?_
    try simp only [go_sem, seval]
    refine hK2 _ _ _ ?_
    first | clear hK2 K2 | skip
    refine awp_reg1 zs [] fun K hK => ?_
    try simp only [go_sem, seval, hw, hnk0]
    obtain ⟨fn0, hf0, hb0, hn0⟩ := T.fo
    refine callK_useK hf0 hb0 hn0 rfl (hT.co w1 st _ _ ⟨by omega, fun k hk => by have := hkeys k hk; omega, ?_, T.ext st H _ n _ (by omega) ?_ htk⟩ hok) ?_ ?_
    · subst hw1; simp [Heap.put, hnk, hnk0, hkn0, hw, walkAV, tkAV, entAV, schAV, bys]
    · intro k hk h2; have h1 : k ≠ n := by omega
      simp [Heap.put, h1, h2]
    rotate_left
    · intro p H' n' h; cases h.1
    intro r H2 n2 ⟨hr2, hL⟩
    cases hr2
    refine hK _ _ _ ?_; clear hK K
    try simp only [go_sem, seval]
    first
    | (refine ⟨rfl, ?_⟩
       rw [hvw, show verT T w st = T.old st by simp [verT, hop]]
       refine hL.up (by omega) fun k hk h1 h2 => ?_
       have h3 : k ≠ n := by omega
       simp [Heap.put, h1, h3])
    | (refine ⟨rfl, by omega, ?_, ?_, fun k hk h1 h2 => ?_⟩
       · simp [Heap.put, verW, hop, walkAV, tkAV, entAV, schAV, bys]
       · rw [show verT T w st = st by simp [verT, hop]]
         refine T.ext st H _ n _ (by omega) (fun k hk h2 => ?_) htk
         have h1 : k ≠ n := by omega
         simp [Heap.put, h1, h2]
       · have h3 : k ≠ n := by omega
         simp [Heap.put, h1, h3])
theorem c_retain_walk_close (T : Tk Tryz.prog) (ok : T.σ → Prop) (hT : TkOK T ok) (w : Wlk) (st : T.σ) (H : Heap) (n : Nat) (ha : Ahead T H n w st) (hok : ok st) (hwk : WOK w) :
    ACalls Tryz.prog 78 [.loc T.kw 0 0 0 []] H n (LeftU T H n (closeW w) (closeT T w st)) := by
  obtain ⟨hkw, hkeys, hw, htk⟩ := ha
  have hnk : ∀ j, (T.kw = n + j) = False := fun j => by simp; omega
  have hnk0 : (T.kw = n) = False := by simp; omega
  have hkn : ∀ j, (n + j = T.kw) = False := fun j => by simp; omega
  have hkn0 : (n = T.kw) = False := by simp; omega
  simp only [walkAV, tkAV] at hw
  refine acalls_of_awp Tryz.func78 rfl Tryz.ntmps78 (congrArg Array.toList Tryz.results78) (by simp) ?_
  simp only [go_sem]
  refine awp_seq_k fun K1 hK1 => ?_
  refine awp_reg zs [0, 9] fun K hK => ?_
  try simp only [go_sem, seval, hw]
  refine hK _ _ _ ?_; clear hK K
  refine awp_cnd (fun hb => ?_) (fun hb => ?_)
  ·skip
   have hop : w.opn = false := by simpa using hb
   refine awp_ret ?_
   try simp only [go_sem, seval]
   first
   | (refine ⟨rfl, ?_⟩
      have hg : closeT T w st = T.grp (closeW w).s st (decOf w) := by simp [closeT, hop, hcw]
      rw [hg]
      refine hL.up (by omega) fun k hk h1 h2 => ?_
      have h3 : k ≠ n := by omega
      have h4 : ∀ j, k ≠ n + j := fun j => by omega
      simp [Heap.put, h1, h3, h4])
   | (refine ⟨rfl, by omega, ?_, ?_, fun k hk h1 h2 => rfl⟩
      · simp [closeW, hop, hw, walkAV, tkAV, entAV, schAV, bys]
      · rw [show closeT T w st = st by simp [closeT, hop]]; exact htk)
  ·skip
   have hop : w.opn = true := by simpa using hb
   obtain ⟨hf0, hf1, hfit, hts0, hts1⟩ := hwk.fam hop
   have hmem : famAt w.s w.ge.fam ∈ w.s := by
     have : w.ge.fam.toNat < w.s.length := by omega
     simp [famAt, List.getD, List.getElem?_eq_getElem this]
   have httl := hwk.ttl _ hmem
   have hnth : nth (w.s.map famAV) w.ge.fam.toNat = famAV (famAt w.s w.ge.fam) := nth_map famAV _ _ (by omega)
   have hwrap : IntKind.i64.wrap (w.ge.ts + (famAt w.s w.ge.fam).ttl) = w.ge.ts + (famAt w.s w.ge.fam).ttl := w64 (by omega) (by omega)
   have hrk : IntKind.i64.wrap (w.rank + 1) = w.rank + 1 := by have := hwk.rank; exact w64 (by omega) (by omega)
   refine awp_skip ?_
   try simp only [go_sem, seval]
   refine hK1 _ _ _ ?_
   first | clear hK1 K1 | skip
   refine awp_reg zs [0] fun K hK => ?_
   try simp only [go_sem, seval, hw]
   refine hK _ _ _ ?_; clear hK K
   refine awp_reg zs [0, 2] fun K hK => ?_
   try simp only [go_sem, seval]
   refine hK _ _ _ ?_; clear hK K
   refine awp_drw rfl zs [0, 2, 3] [.m, .q, .q, .q, .q, .q, .q, .q, .q, .w [1, 2, 3, 4, 5, 6, 7, 8], .w []] (by kernel_rfl) (fun _ _ _ _ _ h => h) fun K hK => ?_
   try simp only [go_sem, seval, hnk, hnk0, hnth]
   repeat refine peel ?_
   refine hK _ _ _ ?_; clear hK K
   refine awp_drw rfl zs [0, 2, 3, 4] [.q, .m, .q, .q, .q, .q, .q, .q, .q, .m, .q, .q, .q, .m, .m, .q, .q, .q, .q, .q, .q, .q, .q, .w [0, 2, 3, 4, 5, 6, 7, 8, 10, 11, 12, 15, 16, 17, 18, 19, 20, 21, 22], .w []] (by kernel_rfl) (fun _ _ _ _ _ h => h) fun K hK => ?_
   try simp only [go_sem, seval, hnk, hnk0]
   repeat refine peel ?_
   refine hK _ _ _ ?_; clear hK K
   refine awp_drw rfl zs [0, 2, 3, 4] [.q, .q, .m, .q, .q, .q, .m, .q, .q, .q, .q, .q, .q, .w []] (by kernel_rfl) (fun _ _ _ _ _ h => h) fun K hK => ?_
   try simp only [go_sem, seval, hnk, hnk0]
   refine hK _ _ _ ?_; clear hK K
   refine awp_drw rfl zs [0, 4] [.q, .q, .q, .m, .q, .q, .q, .q, .q, .m, .q, .q, .q, .q, .q, .q, .w []] (by kernel_rfl) (fun _ _ _ _ _ h => h) fun K hK => ?_
   try simp only [go_sem, seval, hnk, hnk0, hwrap]
   repeat refine peel ?_
   refine hK _ _ _ ?_; clear hK K
   refine awp_seq_k fun K2 hK2 => ?_
   refine awp_reg zs [0, 4, 86] fun K hK => ?_
   try simp only [go_sem, seval]
   refine callK_use Tryz.func112 rfl rfl rfl ((c_retain_decided_out (dec0 w) _ _)) ?_
   try simp only [go_sem, seval]
   repeat refine peel ?_
   refine hK _ _ _ ?_; clear hK K
   refine awp_cnd (fun hb => ?_) (fun hb => ?_)
   ·skip
    have hdec : decOf w = { dec0 w with rank := w.rank + 1 } := by unfold decOf; cases h1 : outD (dec0 w) <;> cases h2 : w.lone <;> simp_all
    have hcw : closeW w = { w with opn := false, rank := w.rank + 1 } := by unfold closeW; cases h1 : outD (dec0 w) <;> cases h2 : w.lone <;> simp_all
    refine awp_reg zs [0, 4] fun K hK => ?_
    try simp only [go_sem, seval, hnk, hnk0, hrk]
    refine hK _ _ _ ?_; clear hK K
    refine awp_reg1 zs [0, 4] fun K hK => ?_
    try simp only [go_sem, seval, hkn]
    refine hK _ _ _ ?_; clear hK K
    try simp only [go_sem, seval]
    refine hK2 _ _ _ ?_
    first | clear hK2 K2 | skip
    refine awp_drw1 rfl zs [] [.m, .q, .q, .q, .q, .q, .w []] (by kernel_rfl) (fun _ _ _ _ _ h => h) fun K hK => ?_
    try simp only [go_sem, seval, hnk]
    obtain ⟨fn0, hfn0, hb0, hn0⟩ := T.fg
    refine callK_useK (args' := [T.recv, decAV (decOf w)]) hfn0 hb0 hn0 ?_ (hT.cg (closeW w) st (decOf w) _ (n + 3) ⟨by omega, fun k hk => by have := hkeys k hk; omega, ?_, T.ext st H _ n _ (by omega) ?_ htk⟩ hok ?_ ?_ ?_) ?_ ?_
    · rw [hdec]; rfl
    · rw [hcw]; simp [Heap.put, hnk, hnk0, hkn0, walkAV, tkAV, entAV, schAV, bys]
    · intro k hk h2; have h1 : k ≠ n := by omega
      have h3 : ∀ j, k ≠ n + j := fun j => by omega
      simp [Heap.put, h1, h2, h3]
    · rw [hdec]; exact hf0
    · rw [hdec, hcw]; exact hf1
    · rw [hdec]; exact hfit
    rotate_left
    · intro p H' n' h; cases h.1
    intro r H2 n2 ⟨hr2, hL⟩
    cases hr2
    refine hK _ _ _ ?_; clear hK K
    try simp only [go_sem, seval]
    first
    | (refine ⟨rfl, ?_⟩
       have hg : closeT T w st = T.grp (closeW w).s st (decOf w) := by simp [closeT, hop, hcw]
       rw [hg]
       refine hL.up (by omega) fun k hk h1 h2 => ?_
       have h3 : k ≠ n := by omega
       have h4 : ∀ j, k ≠ n + j := fun j => by omega
       simp [Heap.put, h1, h3, h4])
    | (refine ⟨rfl, by omega, ?_, ?_, fun k hk h1 h2 => rfl⟩
       · simp [closeW, hop, hw, walkAV, tkAV, entAV, schAV, bys]
       · rw [show closeT T w st = st by simp [closeT, hop]]; exact htk)
   ·skip
    have hdec : decOf w = dec0 w := by unfold decOf; cases h1 : outD (dec0 w) <;> cases h2 : w.lone <;> simp_all
    have hcw : closeW w = { w with opn := false } := by unfold closeW; cases h1 : outD (dec0 w) <;> cases h2 : w.lone <;> simp_all
    refine awp_skip ?_
    try simp only [go_sem, seval]
    refine hK2 _ _ _ ?_
    first | clear hK2 K2 | skip
    refine awp_drw1 rfl zs [] [.m, .q, .q, .q, .q, .q, .w []] (by kernel_rfl) (fun _ _ _ _ _ h => h) fun K hK => ?_
    try simp only [go_sem, seval, hnk, hnk0]
    obtain ⟨fn0, hfn0, hb0, hn0⟩ := T.fg
    refine callK_useK (args' := [T.recv, decAV (decOf w)]) hfn0 hb0 hn0 ?_ (hT.cg (closeW w) st (decOf w) _ (n + 3) ⟨by omega, fun k hk => by have := hkeys k hk; omega, ?_, T.ext st H _ n _ (by omega) ?_ htk⟩ hok ?_ ?_ ?_) ?_ ?_
    · rw [hdec]; rfl
    · rw [hcw]; simp [Heap.put, hnk, hnk0, hkn0, walkAV, tkAV, entAV, schAV, bys]
    · intro k hk h2; have h1 : k ≠ n := by omega
      have h3 : ∀ j, k ≠ n + j := fun j => by omega
      simp [Heap.put, h1, h2, h3]
    · rw [hdec]; exact hf0
    · rw [hdec, hcw]; exact hf1
    · rw [hdec]; exact hfit
    rotate_left
    · intro p H' n' h; cases h.1
    intro r H2 n2 ⟨hr2, hL⟩
    cases hr2
    refine hK _ _ _ ?_; clear hK K
    try simp only [go_sem, seval]
    first
    | (refine ⟨rfl, ?_⟩
       have hg : closeT T w st = T.grp (closeW w).s st (decOf w) := by simp [closeT, hop, hcw]
       rw [hg]
       refine hL.up (by omega) fun k hk h1 h2 => ?_
       have h3 : k ≠ n := by omega
       have h4 : ∀ j, k ≠ n + j := fun j => by omega
       simp [Heap.put, h1, h3, h4])
    | (refine ⟨rfl, by omega, ?_, ?_, fun k hk h1 h2 => rfl⟩
       · simp [closeW, hop, hw, walkAV, tkAV, entAV, schAV, bys]
       · rw [show closeT T w st = st by simp [closeT, hop]]; exact htk)
end Go.Proofs.YtijhkfhflpmajaaGreat
namespace Go.Proofs.YtijhkfhflpmajaaGreat
open Go Go.Sx Go.Rt Go.Proofs
theorem c_retain_walk_next (T : Tk Tryz.prog) (ok : T.σ → Prop) (hT : TkOK T ok) (w : Wlk) (st : T.σ) (e : Ent) (H : Heap) (n : Nat) (ha : Ahead T H n w st) (hok : ok st) (hok1 : ok (nt1 T w st e)) (hwk : WOK w) (hfit : e.fits) :
    ACalls Tryz.prog 77 [.loc T.kw 0 0 0 [], entAV e] H n (LeftU T H n (nextW w e) (nextT T w st e)) := by
  obtain ⟨hkw, hkeys, hw0, htk0⟩ := ha
  have hnk : ∀ j, (T.kw = n + j) = False := fun j => by simp; omega
  have hnk0 : (T.kw = n) = False := by simp; omega
  have hkn : ∀ j, (n + j = T.kw) = False := fun j => by simp; omega
  have hkn0 : (n = T.kw) = False := by simp; omega
  have hw := hw0
  have he : (0 : Nat) = 0 := rfl
  simp only [walkAV, tkAV] at hw
  refine acalls_of_awp Tryz.func77 rfl Tryz.ntmps77 (congrArg Array.toList Tryz.results77) (by simp) ?_
  simp only [go_sem]
  refine awp_reg zs [0, 3] fun K hK => ?_
  try simp only [go_sem, seval]
  refine hK _ _ _ ?_; clear hK K
  refine awp_seq_j (Amid T H n e (nx1 w e) (nt1 T w st e)) ?_ ?_
  ·skip
   refine awp_drw rfl zs [0, 3, 33] [.m, .q, .q, .q, .m, .m, .q, .q, .q, .q, .q, .c, .q, .m, .m, .q, .q, .q, .q, .q, .q, .q, .q, .q, .m, .q, .q, .q, .q, .q] (by kernel_rfl) (fun _ _ _ _ _ h => h) fun K hK => ?_
   try simp only [go_sem, seval, hw, hnk0]
   refine callQG_use Tryz.func109 rfl rfl rfl (fun _ n => (c_retain_sameCol w.ge e _ _)) ?_
   try simp only [go_sem, seval, hw, hnk0]
   repeat refine peel ?_
   refine hK _ _ _ ?_; clear hK K
   refine awp_cnd (fun hb => ?_) (fun hb => ?_)
   ·skip
    have hb1 : endsE w e = true := hb
    refine awp_reg1 zs [0, 3] fun K hK => ?_
    try simp only [go_sem, seval]
    refine callK_useK (args' := [.loc T.kw 0 0 0 []]) Tryz.func78 rfl rfl rfl (c_retain_walk_close T ok hT w st _ (n + 1) ⟨by omega, fun k hk => by have := hkeys k hk; omega, by simp [Heap.put, hnk0, hw0], T.ext st H _ n _ (by omega) ?_ htk0⟩ hok hwk) ?_ ?_
    · intro k hk h2; have h1 : k ≠ n := by omega
      simp [Heap.put, h1]
    rotate_left
    · intro p H' n' h; cases h.1
    intro r H2 n2 ⟨hr2, hL⟩
    refine hK _ _ _ ?_; clear hK K
    try simp only [go_sem, seval]
    first
    | (refine ⟨rfl, rfl, ?_, by have := hL.le; omega, ?_, ?_, fun k hk h1 h2 => ?_⟩
       · have := hL.rest n (by omega) (by omega) (fun h => by have := hkeys n h; omega)
         rw [this]; simp [Heap.put, entAV, bys]
       · simp only [nx1, hb1, cond_true]; exact hL.walk
       · simp only [nt1, hb1, cond_true]; exact hL.tk
       · rw [hL.rest k (by omega) h1 h2]; have h3 : k ≠ n := by omega
         simp [Heap.put, h3])
    | (refine ⟨rfl, rfl, by simp [Heap.put, entAV, bys], by omega, ?_, ?_, fun k hk h1 h2 => ?_⟩
       · simp only [nx1, hb1, cond_false]; simp [Heap.put, hnk0, hw0]
       · simp only [nt1, hb1, cond_false]
         refine T.ext st H _ n _ (by omega) (fun k hk h2 => ?_) htk0
         have h1 : k ≠ n := by omega
         simp [Heap.put, h1]
       · have h3 : k ≠ n := by omega
         simp [Heap.put, h3])
   ·skip
    have hb1 : endsE w e = false := hb
    refine awp_skip ?_
    try simp only [go_sem, seval]
    first
    | (refine ⟨rfl, rfl, ?_, by have := hL.le; omega, ?_, ?_, fun k hk h1 h2 => ?_⟩
       · have := hL.rest n (by omega) (by omega) (fun h => by have := hkeys n h; omega)
         rw [this]; simp [Heap.put, entAV, bys]
       · simp only [nx1, hb1, cond_true]; exact hL.walk
       · simp only [nt1, hb1, cond_true]; exact hL.tk
       · rw [hL.rest k (by omega) h1 h2]; have h3 : k ≠ n := by omega
         simp [Heap.put, h3])
    | (refine ⟨rfl, rfl, by simp [Heap.put, entAV, bys], by omega, ?_, ?_, fun k hk h1 h2 => ?_⟩
       · simp only [nx1, hb1, cond_false]; simp [Heap.put, hnk0, hw0]
       · simp only [nt1, hb1, cond_false]
         refine T.ext st H _ n _ (by omega) (fun k hk h2 => ?_) htk0
         have h1 : k ≠ n := by omega
         simp [Heap.put, h1]
       · have h3 : k ≠ n := by omega
         simp [Heap.put, h3])
  rintro T1 H1 n1 ⟨ht0, ht3, he0, hn, hw0, htk, hrest⟩
  refine awp_sel [0, 3] ?_
  simp only [tsel_eq, List.map_cons, List.map_nil, ht0, ht3]
  have hw := hw0
  have he := he0
  simp only [walkAV, tkAV, entAV, schAV, bys] at hw he
  refine awp_seq_j (Amid T H n e (nx2 (nx1 w e) e) (nt1 T w st e)) ?_ ?_
  ·skip
   refine awp_drw rfl zs [0, 3, 49] [.m, .q, .q, .q, .q, .m, .m, .q, .q, .q, .q, .c, .q, .q] (by kernel_rfl) (fun _ _ _ _ _ h => h) fun K hK => ?_
   try simp only [go_sem, seval, hw, he]
   refine callQG_use Tryz.func110 rfl rfl rfl (fun _ n => (c_retain_sameFam (nx1 w e).last e _ _)) ?_
   try simp only [go_sem, seval]
   repeat refine peel ?_
   refine hK _ _ _ ?_; clear hK K
   refine awp_cnd (fun hb => ?_) (fun hb => ?_)
   ·skip
    have hb2 : newFam (nx1 w e) e = true := hb
    refine awp_reg1 zs [0, 3] fun K hK => ?_
    try simp only [go_sem, seval, hw]
    refine hK _ _ _ ?_; clear hK K
    try simp only [go_sem, seval]
    first
    | (simp only [nx2, hb2, cond_false]; exact ⟨rfl, rfl, he0, hn, hw0, htk, hrest⟩)
    | (simp only [nx2, hb2, cond_true]; exact amid_put hkw he0 hn htk hrest { nx1 w e with famMask := 0, colMask := 0, rank := 0 } rfl rfl)
   ·skip
    have hb2 : newFam (nx1 w e) e = false := hb
    refine awp_skip ?_
    try simp only [go_sem, seval]
    first
    | (simp only [nx2, hb2, cond_false]; exact ⟨rfl, rfl, he0, hn, hw0, htk, hrest⟩)
    | (simp only [nx2, hb2, cond_true]; exact amid_put hkw he0 hn htk hrest { nx1 w e with famMask := 0, colMask := 0, rank := 0 } rfl rfl)
  rintro T1 H1 n1 ⟨ht0, ht3, he0, hn, hw0, htk, hrest⟩
  refine awp_sel [0, 3] ?_
  simp only [tsel_eq, List.map_cons, List.map_nil, ht0, ht3]
  have hw := hw0
  have he := he0
  simp only [walkAV, tkAV, entAV, schAV, bys] at hw he
  refine awp_seq_j (Amid T H n e (nx3 (nx2 (nx1 w e) e) e) (nt1 T w st e)) ?_ ?_
  ·skip
   refine awp_drw rfl zs [0, 3, 71] [.m, .q, .q, .q, .m, .m, .q, .q, .q, .q, .c, .q, .q] (by kernel_rfl) (fun _ _ _ _ _ h => h) fun K hK => ?_
   try simp only [go_sem, seval, hw, he]
   refine callQG_use Tryz.func109 rfl rfl rfl (fun _ n => (c_retain_sameCol (nx2 (nx1 w e) e).last e _ _)) ?_
   try simp only [go_sem, seval]
   repeat refine peel ?_
   refine hK _ _ _ ?_; clear hK K
   refine awp_cnd (fun hb => ?_) (fun hb => ?_)
   ·skip
    have hb3 : newCol (nx2 (nx1 w e) e) e = true := hb
    refine awp_reg1 zs [0, 3] fun K hK => ?_
    try simp only [go_sem, seval, hw]
    refine hK _ _ _ ?_; clear hK K
    try simp only [go_sem, seval]
    first
    | (simp only [nx3, hb3, cond_false]; exact ⟨rfl, rfl, he0, hn, hw0, htk, hrest⟩)
    | (simp only [nx3, hb3, cond_true]; exact amid_put hkw he0 hn htk hrest { nx2 (nx1 w e) e with colMask := 0, rank := 0 } rfl rfl)
   ·skip
    have hb3 : newCol (nx2 (nx1 w e) e) e = false := hb
    refine awp_skip ?_
    try simp only [go_sem, seval]
    first
    | (simp only [nx3, hb3, cond_false]; exact ⟨rfl, rfl, he0, hn, hw0, htk, hrest⟩)
    | (simp only [nx3, hb3, cond_true]; exact amid_put hkw he0 hn htk hrest { nx2 (nx1 w e) e with colMask := 0, rank := 0 } rfl rfl)
  rintro T1 H1 n1 ⟨ht0, ht3, he0, hn, hw0, htk, hrest⟩
  refine awp_sel [0, 3] ?_
  simp only [tsel_eq, List.map_cons, List.map_nil, ht0, ht3]
  have hw := hw0
  have he := he0
  simp only [walkAV, tkAV, entAV, schAV, bys] at hw he
  refine awp_drw rfl zs [0, 3] [.m, .m, .q, .q, .q, .w [2], .q, .q, .w []] (by kernel_rfl) (fun _ _ _ _ _ h => h) fun K hK => ?_
  try simp only [go_sem, seval, hw, he, hkn0]
  refine hK _ _ _ ?_; clear hK K
  refine awp_reg zs [0, 3, 86] fun K hK => ?_
  try simp only [go_sem, seval, he, hkn0]
  refine hK _ _ _ ?_; clear hK K
  refine awp_block ?_
  refine awp_reg zs [0, 3, 86, 90] fun K hK => ?_
  try simp only [go_sem, seval]
  refine hK _ _ _ ?_; clear hK K
  refine awp_cnd (fun hb => ?_) (fun hb => ?_)
  ·skip
   have hk5 : e.kind = 5 := by simpa using hb
   refine awp_drw rfl zs [0, 3] [.m, .q, .q, .q, .q, .q, .m, .q, .q, .q, .q, .w []] (by kernel_rfl) (fun _ _ _ _ _ h => h) fun K hK => ?_
   try simp only [go_sem, seval, he, hkn0]
   obtain ⟨fn0, hfn0, hb0, hn0⟩ := T.fm
   refine callK_useK (args' := [T.recv, entAV e, .bool ((nx4 (nx3 (nx2 (nx1 w e) e) e) e).famMask == 0)]) hfn0 hb0 hn0 rfl (hT.cm (nx4 (nx3 (nx2 (nx1 w e) e) e) e) _ e ((nx4 (nx3 (nx2 (nx1 w e) e) e) e).famMask == 0) _ n1 (ahead_put hkw hkeys hn htk (nx4 (nx3 (nx2 (nx1 w e) e) e) e)) hok1 hfit) ?_ ?_
   rotate_left
   · intro p H' n' h; cases h.1
   intro r H2 n2 ⟨hr2, hL⟩
   cases hr2
   have hw := hL.walk
   have he : H2 n = some (.arr 0 7 [entAV e]) := by rw [hL.rest n (by omega) (by omega) (fun h => by have := hkeys n h; omega), put_kw _ (by omega)]; exact he0
   simp only [walkAV, tkAV, entAV, schAV, bys] at hw he
   refine hK _ _ _ ?_; clear hK K
   refine awp_drw1 rfl zs [] [.m, .m, .q, .q, .q, .q, .q, .q, .q, .q, .w []] (by kernel_rfl) (fun _ _ _ _ _ h => h) fun K hK => ?_
   try simp only [go_sem, seval, hw, he]
   refine hK _ _ _ ?_; clear hK K
   try simp only [go_sem, seval]
   have hrest2 : ∀ k, k < n → k ≠ T.kw → ¬ T.keys k → H2 k = H k := fun k hk h1 h2 => by
     rw [hL.rest k (by omega) h1 h2]; first | (rw [put_kw _ h1]; exact hrest k hk h1 h2)
   have hle := hL.le
   refine ⟨rfl, ?_⟩
   unfold nextW nextT
   first
   | (rw [show nx5 (nx4 (nx3 (nx2 (nx1 w e) e) e) e) e = { (nx4 (nx3 (nx2 (nx1 w e) e) e) e) with famMask := max (nx4 (nx3 (nx2 (nx1 w e) e) e) e).famMask e.ts } by simp [nx5, hk5], show nt5 T (nx4 (nx3 (nx2 (nx1 w e) e) e) e) (nt1 T w st e) e = T.mrk (nt1 T w st e) e ((nx4 (nx3 (nx2 (nx1 w e) e) e) e).famMask == 0) by simp [nt5, hk5]]
      exact left_put (by omega) hL.tk hrest2 _)
   | (rw [show nx5 (nx4 (nx3 (nx2 (nx1 w e) e) e) e) e = { (nx4 (nx3 (nx2 (nx1 w e) e) e) e) with colMask := max (nx4 (nx3 (nx2 (nx1 w e) e) e) e).colMask e.ts } by simp [nx5, hk4], show nt5 T (nx4 (nx3 (nx2 (nx1 w e) e) e) e) (nt1 T w st e) e = T.mrk (nt1 T w st e) e (bif (nx4 (nx3 (nx2 (nx1 w e) e) e) e).colMask == 0 then decide ((nx4 (nx3 (nx2 (nx1 w e) e) e) e).famMask < e.ts) else false) by simp [nt5, hk4]]
      exact left_put (by omega) hL.tk hrest2 _)
   | (rw [show nx5 (nx4 (nx3 (nx2 (nx1 w e) e) e) e) e = verW (nx4 (nx3 (nx2 (nx1 w e) e) e) e) e by simp [nx5, hk4, hk5], show nt5 T (nx4 (nx3 (nx2 (nx1 w e) e) e) e) (nt1 T w st e) e = verT T (nx4 (nx3 (nx2 (nx1 w e) e) e) e) (nt1 T w st e) by simp [nt5, hk4, hk5]]
      exact ⟨by omega, hL.walk, hL.tk, hrest2⟩)
  ·skip
   have hk5 : ¬ e.kind = 5 := by simpa using hb
   refine awp_reg zs [0, 3, 114] fun K hK => ?_
   try simp only [go_sem, seval]
   refine hK _ _ _ ?_; clear hK K
   refine awp_cnd (fun hb => ?_) (fun hb => ?_)
   ·skip
    have hk4 : e.kind = 4 := by simpa using hb
    refine awp_drw rfl zs [0, 3] [.m, .q, .q, .q, .q, .q, .m, .q, .q, .q, .q, .m, .q, .q, .m, .q, .q, .q, .q, .q, .w []] (by kernel_rfl) (fun _ _ _ _ _ h => h) fun K hK => ?_
    try simp only [go_sem, seval, he, hkn0]
    repeat refine peel ?_
    obtain ⟨fn0, hfn0, hb0, hn0⟩ := T.fm
    refine callK_useK (args' := [T.recv, entAV e, .bool (bif (nx4 (nx3 (nx2 (nx1 w e) e) e) e).colMask == 0 then decide ((nx4 (nx3 (nx2 (nx1 w e) e) e) e).famMask < e.ts) else false)]) hfn0 hb0 hn0 rfl (hT.cm (nx4 (nx3 (nx2 (nx1 w e) e) e) e) _ e (bif (nx4 (nx3 (nx2 (nx1 w e) e) e) e).colMask == 0 then decide ((nx4 (nx3 (nx2 (nx1 w e) e) e) e).famMask < e.ts) else false) _ n1 (ahead_put hkw hkeys hn htk (nx4 (nx3 (nx2 (nx1 w e) e) e) e)) hok1 hfit) ?_ ?_
    rotate_left
    · intro p H' n' h; cases h.1
    intro r H2 n2 ⟨hr2, hL⟩
    cases hr2
    have hw := hL.walk
    have he : H2 n = some (.arr 0 7 [entAV e]) := by rw [hL.rest n (by omega) (by omega) (fun h => by have := hkeys n h; omega), put_kw _ (by omega)]; exact he0
    simp only [walkAV, tkAV, entAV, schAV, bys] at hw he
    refine hK _ _ _ ?_; clear hK K
    refine awp_drw1 rfl zs [] [.m, .m, .q, .q, .q, .q, .q, .q, .q, .q, .w []] (by kernel_rfl) (fun _ _ _ _ _ h => h) fun K hK => ?_
    try simp only [go_sem, seval, hw, he]
    refine hK _ _ _ ?_; clear hK K
    try simp only [go_sem, seval]
    have hrest2 : ∀ k, k < n → k ≠ T.kw → ¬ T.keys k → H2 k = H k := fun k hk h1 h2 => by
      rw [hL.rest k (by omega) h1 h2]; first | (rw [put_kw _ h1]; exact hrest k hk h1 h2)
    have hle := hL.le
    refine ⟨rfl, ?_⟩
    unfold nextW nextT
    first
    | (rw [show nx5 (nx4 (nx3 (nx2 (nx1 w e) e) e) e) e = { (nx4 (nx3 (nx2 (nx1 w e) e) e) e) with famMask := max (nx4 (nx3 (nx2 (nx1 w e) e) e) e).famMask e.ts } by simp [nx5, hk5], show nt5 T (nx4 (nx3 (nx2 (nx1 w e) e) e) e) (nt1 T w st e) e = T.mrk (nt1 T w st e) e ((nx4 (nx3 (nx2 (nx1 w e) e) e) e).famMask == 0) by simp [nt5, hk5]]
       exact left_put (by omega) hL.tk hrest2 _)
    | (rw [show nx5 (nx4 (nx3 (nx2 (nx1 w e) e) e) e) e = { (nx4 (nx3 (nx2 (nx1 w e) e) e) e) with colMask := max (nx4 (nx3 (nx2 (nx1 w e) e) e) e).colMask e.ts } by simp [nx5, hk4], show nt5 T (nx4 (nx3 (nx2 (nx1 w e) e) e) e) (nt1 T w st e) e = T.mrk (nt1 T w st e) e (bif (nx4 (nx3 (nx2 (nx1 w e) e) e) e).colMask == 0 then decide ((nx4 (nx3 (nx2 (nx1 w e) e) e) e).famMask < e.ts) else false) by simp [nt5, hk4]]
       exact left_put (by omega) hL.tk hrest2 _)
    | (rw [show nx5 (nx4 (nx3 (nx2 (nx1 w e) e) e) e) e = verW (nx4 (nx3 (nx2 (nx1 w e) e) e) e) e by simp [nx5, hk4, hk5], show nt5 T (nx4 (nx3 (nx2 (nx1 w e) e) e) e) (nt1 T w st e) e = verT T (nx4 (nx3 (nx2 (nx1 w e) e) e) e) (nt1 T w st e) by simp [nt5, hk4, hk5]]
       exact ⟨by omega, hL.walk, hL.tk, hrest2⟩)
   ·skip
    have hk4 : ¬ e.kind = 4 := by simpa using hb
    refine awp_reg1 zs [] fun K hK => ?_
    try simp only [go_sem, seval, he, hkn0]
    refine callK_useK (args' := [.loc T.kw 0 0 0 [], entAV e]) Tryz.func111 rfl rfl rfl (c_retain_walk_version T ok hT (nx4 (nx3 (nx2 (nx1 w e) e) e) e) _ e _ n1 (ahead_put hkw hkeys hn htk (nx4 (nx3 (nx2 (nx1 w e) e) e) e)) hok1) ?_ ?_
    rotate_left
    · intro p H' n' h; cases h.1
    intro r H2 n2 ⟨hr2, hL⟩
    cases hr2
    refine hK _ _ _ ?_; clear hK K
    try simp only [go_sem, seval]
    have hrest2 : ∀ k, k < n → k ≠ T.kw → ¬ T.keys k → H2 k = H k := fun k hk h1 h2 => by
      rw [hL.rest k (by omega) h1 h2]; first | (rw [put_kw _ h1]; exact hrest k hk h1 h2)
    have hle := hL.le
    refine ⟨rfl, ?_⟩
    unfold nextW nextT
    first
    | (rw [show nx5 (nx4 (nx3 (nx2 (nx1 w e) e) e) e) e = { (nx4 (nx3 (nx2 (nx1 w e) e) e) e) with famMask := max (nx4 (nx3 (nx2 (nx1 w e) e) e) e).famMask e.ts } by simp [nx5, hk5], show nt5 T (nx4 (nx3 (nx2 (nx1 w e) e) e) e) (nt1 T w st e) e = T.mrk (nt1 T w st e) e ((nx4 (nx3 (nx2 (nx1 w e) e) e) e).famMask == 0) by simp [nt5, hk5]]
       exact left_put (by omega) hL.tk hrest2 _)
    | (rw [show nx5 (nx4 (nx3 (nx2 (nx1 w e) e) e) e) e = { (nx4 (nx3 (nx2 (nx1 w e) e) e) e) with colMask := max (nx4 (nx3 (nx2 (nx1 w e) e) e) e).colMask e.ts } by simp [nx5, hk4], show nt5 T (nx4 (nx3 (nx2 (nx1 w e) e) e) e) (nt1 T w st e) e = T.mrk (nt1 T w st e) e (bif (nx4 (nx3 (nx2 (nx1 w e) e) e) e).colMask == 0 then decide ((nx4 (nx3 (nx2 (nx1 w e) e) e) e).famMask < e.ts) else false) by simp [nt5, hk4]]
       exact left_put (by omega) hL.tk hrest2 _)
    | (rw [show nx5 (nx4 (nx3 (nx2 (nx1 w e) e) e) e) e = verW (nx4 (nx3 (nx2 (nx1 w e) e) e) e) e by simp [nx5, hk4, hk5], show nt5 T (nx4 (nx3 (nx2 (nx1 w e) e) e) e) (nt1 T w st e) e = verT T (nx4 (nx3 (nx2 (nx1 w e) e) e) e) (nt1 T w st e) by simp [nt5, hk4, hk5]]
       exact ⟨by omega, hL.walk, hL.tk, hrest2⟩)
end Go.Proofs.YtijhkfhflpmajaaGreat
namespace Go.Proofs.YtijhkfhflpmajaaGreat
open Go Go.Sx Go.Rt Go.Proofs
theorem o_retain_copies (b : List UInt8) (hb : b.length ≤ 140737488355328) (H : Heap) (n : Nat) : Ret Tryz.prog 98 [bys b] H n (.osl n 0 0 b.length) (H.put n (some (.arr 0 1 (b.map byteAV)))) (n + 1) := by
  refine acalls_of_awp Tryz.func98 rfl Tryz.ntmps98 (congrArg Array.toList Tryz.results98) (by simp) ?_
  simp only [go_sem]
  refine awp_rq zs [0] ?_
  refine awp_reg_app zs [2] 1 rfl (by first | trivial | (show _ < _; decide)) fun K hK => ?_
  try simp only [go_sem, seval, List.length_map]
  repeat (first | (refine And.intro ?_ ?_; · first | exact ⟨.inr trivial, by omega, by omega⟩) | refine peel ?_)
  refine hK _ _ _ ?_; clear hK K
  refine awp_ret ?_
  try simp only [go_sem, seval]
theorem o_retain_copied (e : Ent) (he : e.fits) (H : Heap) (n : Nat) : ACalls Tryz.prog 64 [entAV e] H n fun res H' n' => ∃ x : LEnt, res = .val (lentAV x) ∧ x.e = e ∧ n ≤ n' ∧ x.mine H' n n' ∧ ∀ k, k < n → H' k = H k := by
  obtain ⟨h1, h2, h3⟩ := he
  refine acalls_of_awp Tryz.func64 rfl Tryz.ntmps64 (congrArg Array.toList Tryz.results64) (by simp) ?_
  simp only [go_sem]
  refine awp_reg zs [1, 2] fun K hK => ?_
  try simp only [go_sem, seval, Nat.add_assoc]
  refine hK _ _ _ ?_; clear hK K
  refine awp_drp rfl zs [1, 2] [.q, .q, .w [3, 4, 6, 7], .q, .q, .w [6, 7, 9], .q, .q, .w [9], .q, .w [], .q, .w [], .q, .w []] [0, 1, 3, 4, 6, 7, 2, 9, 5, 8, 10, 11, 12, 13, 14] [0, 1, 6, 2, 3, 8, 4, 5, 9, 7, 10, 11, 12, 13, 14] (by kernel_rfl) (fun _ _ _ _ _ h => h) fun K hK => ?_
  try simp only [go_sem, seval]
  refine callK_use Tryz.func98 rfl rfl rfl ((o_retain_copies e.row h1 _ _)) ?_
  try simp only [go_sem, seval, Nat.add_assoc]
  refine callK_use Tryz.func98 rfl rfl rfl ((o_retain_copies e.qual h2 _ _)) ?_
  try simp only [go_sem, seval, Nat.add_assoc]
  refine callK_use Tryz.func98 rfl rfl rfl ((o_retain_copies e.value h3 _ _)) ?_
  try simp only [go_sem, seval, Nat.add_assoc]
  refine hK _ _ _ ?_; clear hK K
  refine awp_reg zs [2] fun K hK => ?_
  try simp only [go_sem, seval]
  refine hK _ _ _ ?_; clear hK K
  refine awp_ret ?_
  try simp only [go_sem, seval]
  refine ⟨⟨e, ⟨n + 2, 0, e.row.map byteAV⟩, ⟨n + 3, 0, e.qual.map byteAV⟩, ⟨n + 4, 0, e.value.map byteAV⟩⟩, rfl, rfl, by omega, ⟨⟨?_, rfl, by show n ≤ n + 2; omega, by show n + 2 < n + 5; omega⟩, ⟨?_, rfl, by show n ≤ n + 3; omega, by show n + 3 < n + 5; omega⟩, ⟨?_, rfl, by show n ≤ n + 4; omega, by show n + 4 < n + 5; omega⟩, by show n + 2 < n + 3; omega, by show n + 3 < n + 4; omega⟩, ?_⟩
  · simp [Heap.put]
  · simp [Heap.put]
  · simp [Heap.put]
  · intro k hk
    have h0 : k ≠ n := by omega
    have h1 : ∀ j, k ≠ n + j := fun j => by omega
    simp [h0, h1]
end Go.Proofs.YtijhkfhflpmajaaGreat
namespace Go.Proofs.YtijhkfhflpmajaaGreat
open Go Go.Sx Go.Rt Go.Proofs
def keptAV (kw ko : Nat) (s : KSt) : AV := .agg [.bool s.major, .int .i64 s.low, .osl ko s.out.length 0 s.out.length, .agg [.int .i64 s.older, .int .i64 s.masked, .int .i64 s.expired, .int .i64 s.above, .int .i64 s.marks], .loc kw 0 0 0 []]
structure KSep (kw kt ko lo : Nat) : Prop where
  a : kw ≠ kt
  b : kw ≠ ko
  c : kt ≠ ko
  d : kw < lo
  e : kt < lo
  f : ko < lo
def outAt (H : Heap) (n ko lo : Nat) (out : List Ent) : Prop := ∃ xs : List LEnt, xs.map (·.e) = out ∧ H ko = some (.arr xs.length 7 (xs.map lentAV)) ∧ MineL H lo n xs
theorem outAt.mono {H H' : Heap} {n n' ko lo : Nat} {out : List Ent} (h : outAt H n ko lo out) (h1 : H' ko = H ko) (h2 : ∀ k, lo ≤ k → k < n → H' k = H k) (hn : n ≤ n') : outAt H' n' ko lo out := by
  obtain ⟨xs, e, a, m⟩ := h
  exact ⟨xs, e, h1.trans a, m.mono h2 hn⟩
def keptTk (kw kt ko lo : Nat) (h : KSep kw kt ko lo) : Tk Tryz.prog where
  σ := KSt
  kw := kw
  recv := .loc kt 0 0 0 []
  g := 79
  o := 80
  m := 81
  fg := ⟨_, Tryz.func79, rfl, rfl⟩
  fo := ⟨_, Tryz.func80, rfl, rfl⟩
  fm := ⟨_, Tryz.func81, rfl, rfl⟩
  keys := fun k => k = kt ∨ k = ko
  kwn := by simp [h.a, h.b]
  holds := fun s H n => lo ≤ n ∧ H kt = some (.arr 0 9 [keptAV kw ko s]) ∧ outAt H n ko lo s.out
  ext := fun s H H' n n' hn hk ⟨a, c, d⟩ => ⟨by omega, (hk kt (Nat.lt_of_lt_of_le h.e a) (Ne.symm h.a)).trans c, d.mono (hk ko (Nat.lt_of_lt_of_le h.f a) (Ne.symm h.b)) (fun k h1 h2 => hk k h2 (by have := h.d; omega)) hn⟩
  grp := keptG
  old := keptO
  mrk := keptM
section
variable {kw kt ko lo : Nat} {h : KSep kw kt ko lo} {w : Wlk} {H H1 : Heap} {n n1 : Nat}
theorem kept_left (hlo : lo ≤ n) (st' : KSt) (hn : n ≤ n1) (hw : H1 kw = some (.arr 0 25 [walkAV (keptTk kw kt ko lo h) w])) (hto : outAt H1 n1 ko lo st'.out)
    (hrest : ∀ k, k < n → k ≠ kw → k ≠ kt → k ≠ ko → H1 k = H k) : LeftU (keptTk kw kt ko lo h) H n w st' (.val (.tup [])) (H1.put kt (some (.arr 0 9 [keptAV kw ko st']))) n1 :=
  ⟨rfl, hn, (Heap.put_ne _ _ h.a).trans hw, ⟨by omega, by simp [Heap.put], hto.mono (Heap.put_ne _ _ (Ne.symm h.c)) (fun k h1 h2 => Heap.put_ne _ _ (by have := h.e; omega)) (Nat.le_refl _)⟩, fun k hk h1 h2 => by
    have h3 : k ≠ kt := fun e => h2 (.inl e)
    have h4 : k ≠ ko := fun e => h2 (.inr e)
    exact (Heap.put_ne _ _ h3).trans (hrest k hk h1 h3 h4)⟩
theorem kept_app (hlo : lo ≤ n) (st : KSt) (xs : List LEnt) (x : LEnt) (hxe : xs.map (·.e) = st.out) (hm : MineL H lo n xs) (hx : x.mine H1 n n1) (hn : n ≤ n1) (hw : H1 kw = some (.arr 0 25 [walkAV (keptTk kw kt ko lo h) w]))
    (hrest : ∀ k, k < n → H1 k = H k) :
    LeftU (keptTk kw kt ko lo h) H n w { st with out := st.out ++ [x.e] } (.val (.tup []))
      ((H1.put ko (some (.arr (st.out.length + 1) 7 (List.take st.out.length (xs.map lentAV) ++ [lentAV x])))).put kt (some (.arr 0 9 [.agg [.bool st.major, .int .i64 st.low, .osl ko (st.out.length + 1) 0 (st.out.length + 1), .agg [.int .i64 st.older, .int .i64 st.masked, .int .i64 st.expired, .int .i64 st.above, .int .i64 st.marks], .loc kw 0 0 0 []]]))) n1 := by
  have hl : xs.length = st.out.length := by rw [← hxe]; simp
  have := kept_left (h := h) (w := w) (H := H) (H1 := H1.put ko (some (.arr (st.out.length + 1) 7 (List.take st.out.length (xs.map lentAV) ++ [lentAV x])))) (n1 := n1) hlo { st with out := st.out ++ [x.e] } hn
    ((Heap.put_ne _ _ h.b).trans hw) ⟨xs ++ [x], by simp [hxe], by simp [Heap.put, hl, List.take_of_length_le], ((hm.mono (fun k _ h2 => hrest k h2) (Nat.le_refl _)).snoc hx hlo hn).mono (fun k h1 h2 => Heap.put_ne _ _ (by have := h.f; omega)) (Nat.le_refl _)⟩ (fun k hk h1 h2 h3 => (Heap.put_ne _ _ h3).trans (hrest k hk))
  simpa [keptAV] using this
end
theorem kept_older (kw kt ko lo : Nat) (h : KSep kw kt ko lo) (w : Wlk) (st : KSt) (H : Heap) (n : Nat) (ha : Ahead (keptTk kw kt ko lo h) H n w st) (hok : st.ok) :
    ACalls Tryz.prog 80 [.loc kt 0 0 0 []] H n (LeftU (keptTk kw kt ko lo h) H n w (keptO st)) := by
  obtain ⟨hkw, hkeys, hw, hlo, htk, hto⟩ := ha
  have hwr : IntKind.i64.wrap (st.older + 1) = st.older + 1 := by obtain ⟨h1, h2, h3, h4, h5, h6⟩ := hok; exact w64 (by omega) (by omega)
  have ht := htk
  simp only [keptAV] at ht
  refine acalls_of_awp Tryz.func80 rfl Tryz.ntmps80 (congrArg Array.toList Tryz.results80) (by simp) ?_
  simp only [go_sem]
  refine awp_reg1 zs [] fun K hK => ?_
  try simp only [go_sem, seval, ht, hwr]
  refine hK _ _ _ ?_; clear hK K
  try simp only [go_sem, seval]
  exact kept_left hlo (keptO st) (Nat.le_refl _) hw hto (fun k _ _ _ _ => rfl)
theorem kept_mark (kw kt ko lo : Nat) (h : KSep kw kt ko lo) (w : Wlk) (st : KSt) (e : Ent) (b : Bool) (H : Heap) (n : Nat) (ha : Ahead (keptTk kw kt ko lo h) H n w st) (hok : st.ok) (he : e.fits) :
    ACalls Tryz.prog 81 [.loc kt 0 0 0 [], entAV e, .bool b] H n (LeftU (keptTk kw kt ko lo h) H n w (keptM st e b)) := by
  obtain ⟨hkw, hkeys, hw, hlo, htk, hto0⟩ := ha
  obtain ⟨xs, hxe, hto, hm⟩ := id hto0
  have hxl : xs.length = st.out.length := by rw [← hxe]; simp
  rw [hxl] at hto
  have hkt : kt < n := hkeys kt (.inl rfl)
  have hko : ko < n := hkeys ko (.inr rfl)
  have hkw' : kw < n := hkw
  have hwr : IntKind.i64.wrap (st.marks + 1) = st.marks + 1 := by obtain ⟨h1, h2, h3, h4, h5, h6⟩ := hok; exact w64 (by omega) (by omega)
  have ht := htk
  simp only [keptAV] at ht
  have hlen : (st.out.length + 1) * 104 ≤ 140737488355328 := by obtain ⟨h1, h2, h3, h4, h5, h6⟩ := hok; omega
  have q1 : (kt = n) = False := by simp; omega
  have q2 : (ko = n) = False := by simp; omega
  have q3 : (n = kt) = False := by simp; omega
  have q4 : (n = ko) = False := by simp; omega
  have q5 : (kt = ko) = False := by simp [h.c]
  have q6 : (ko = kt) = False := by simp [Ne.symm h.c]
  have r1 : (0 : Nat) = 0 := rfl
  have r2 : (0 : Nat) = 0 := rfl
  refine acalls_of_awp Tryz.func81 rfl Tryz.ntmps81 (congrArg Array.toList Tryz.results81) (by simp) ?_
  simp only [go_sem]
  refine awp_reg zs [0, 2, 4] fun K hK => ?_
  try simp only [go_sem, seval]
  refine hK _ _ _ ?_; clear hK K
  refine awp_seq_k fun K1 hK1 => ?_
  refine awp_drw rfl zs [0, 4, 22] [.m, .q, .m, .m, .q, .q, .q, .m, .q, .q, .m, .q, .q, .q, .q, .q, .q] (by kernel_rfl) (fun _ _ _ _ _ h => h) fun K hK => ?_
  try simp only [go_sem, seval, ht, q1]
  repeat refine peel ?_
  refine hK _ _ _ ?_; clear hK K
  refine awp_cnd (fun hb => ?_) (fun hb => ?_)
  ·skip
   have hc : b = false ∨ st.major = true ∧ e.ts ≤ st.low := by cases b <;> cases h1 : st.major <;> simp_all
   refine awp_reg zs [] fun K hK => ?_
   try simp only [go_sem, seval, ht, hwr, q1]
   refine hK _ _ _ ?_; clear hK K
   refine awp_ret ?_
   try simp only [go_sem, seval]
   have g1 : ∀ (o : Option AObj), (H.put n o) kw = H kw := fun o => Heap.put_ne _ _ (by omega)
   have g2 : ∀ (o : Option AObj) k, k < n → (H.put n o) k = H k := fun o k hk => Heap.put_ne _ _ (by omega)
   first
   | (rw [show keptM st e b = { st with marks := st.marks + 1 } by simp [keptM, hc]]
      exact kept_left hlo { st with marks := st.marks + 1 } (by omega) ((g1 _).trans hw) (hto0.mono (g2 _ ko hko) (fun k _ h2 => g2 _ k h2) (by omega)) (fun k hk _ _ _ => g2 _ k hk))
   | (rw [show keptM st e b = { st with out := st.out ++ [x.e] } by simp only [keptM]; rw [if_neg hc, hxe2]]
      exact kept_app hlo st xs x hxe hm (hmx.low (by omega)) (by omega) ((hlow kw (by omega)).trans ((g1 _).trans hw)) (fun k hk => (hlow k (by omega)).trans (g2 _ k hk)))
  ·skip
   have hc : ¬ (b = false ∨ st.major = true ∧ e.ts ≤ st.low) := by cases b <;> cases h1 : st.major <;> simp_all
   refine awp_skip ?_
   try simp only [go_sem, seval]
   refine hK1 _ _ _ ?_
   first | clear hK1 K1 | skip
   refine awp_drp1 rfl zs [] [.m, .m, .q, .q, .q, .q, .w [2, 3, 4], .q, .w [], .q, .q, .w []] [0, 1, 2, 3, 4, 5, 6, 7, 8, 9, 10, 11] [0, 1, 2, 3, 4, 5, 6, 7, 8, 9, 10, 11] (by kernel_rfl) (fun _ _ _ _ _ h => h) fun K hK => ?_
   try simp only [go_sem, seval, ht, q1]
   repeat (first | (refine And.intro ?_ ?_; · first | exact ⟨rfl, by simp [AV.sz, AV.szs, AV.memOK, lentAV, Lp.av]⟩ | (simp; omega)) | refine peel ?_)
   refine callK_useK (args' := [entAV e]) Tryz.func64 rfl rfl rfl (o_retain_copied e he _ _) ?_ ?_
   rotate_left
   · intro p H' n' h; obtain ⟨x, hx, _⟩ := h; cases hx
   rintro r H2 n2 ⟨x, hr2, hxe2, hn2, hmx, hlow⟩
   cases hr2
   have r1 := (hlow kt (by omega)).trans ((Heap.put_ne _ _ (by omega)).trans ht)
   have r2 := (hlow ko (by omega)).trans ((Heap.put_ne _ _ (by omega)).trans hto)
   try simp only [go_sem, seval, q5, r1, r2]
   repeat (first | (refine And.intro ?_ ?_; · first | exact ⟨rfl, by simp [AV.sz, AV.szs, AV.memOK, lentAV, Lp.av]⟩ | (simp; omega)) | refine peel ?_)
   refine hK _ _ _ ?_; clear hK K
   try simp only [go_sem, seval]
   have g1 : ∀ (o : Option AObj), (H.put n o) kw = H kw := fun o => Heap.put_ne _ _ (by omega)
   have g2 : ∀ (o : Option AObj) k, k < n → (H.put n o) k = H k := fun o k hk => Heap.put_ne _ _ (by omega)
   first
   | (rw [show keptM st e b = { st with marks := st.marks + 1 } by simp [keptM, hc]]
      exact kept_left hlo { st with marks := st.marks + 1 } (by omega) ((g1 _).trans hw) (hto0.mono (g2 _ ko hko) (fun k _ h2 => g2 _ k h2) (by omega)) (fun k hk _ _ _ => g2 _ k hk))
   | (rw [show keptM st e b = { st with out := st.out ++ [x.e] } by simp only [keptM]; rw [if_neg hc, hxe2]]
      exact kept_app hlo st xs x hxe hm (hmx.low (by omega)) (by omega) ((hlow kw (by omega)).trans ((g1 _).trans hw)) (fun k hk => (hlow k (by omega)).trans (g2 _ k hk)))
theorem kept_group (kw kt ko lo : Nat) (h : KSep kw kt ko lo) (w : Wlk) (st : KSt) (d : Dec) (H : Heap) (n : Nat) (ha : Ahead (keptTk kw kt ko lo h) H n w st) (hok : st.ok) (hf0 : 0 ≤ d.e.fam) (hf1 : d.e.fam < w.s.length) (he : d.e.fits) :
    ACalls Tryz.prog 79 [.loc kt 0 0 0 [], decAV d] H n (LeftU (keptTk kw kt ko lo h) H n w (keptG w.s st d)) := by
  obtain ⟨hkw, hkeys, hw, hlo, htk, hto0⟩ := ha
  obtain ⟨xs, hxe, hto, hm⟩ := id hto0
  have hxl : xs.length = st.out.length := by rw [← hxe]; simp
  rw [hxl] at hto
  have hkt : kt < n := hkeys kt (.inl rfl)
  have hko : ko < n := hkeys ko (.inr rfl)
  have hkw' : kw < n := hkw
  obtain ⟨k1, k2, k3, k4, k5, k6⟩ := hok
  have hwr1 : IntKind.i64.wrap (st.marks + 1) = st.marks + 1 := w64 (by omega) (by omega)
  have hwr2 : IntKind.i64.wrap (st.masked + 1) = st.masked + 1 := w64 (by omega) (by omega)
  have hwr3 : IntKind.i64.wrap (st.expired + 1) = st.expired + 1 := w64 (by omega) (by omega)
  have hwr4 : IntKind.i64.wrap (st.above + 1) = st.above + 1 := w64 (by omega) (by omega)
  have ht := htk
  have hww := hw
  simp only [keptAV] at ht
  simp only [walkAV, tkAV] at hww
  have hww : H kw = _ := hww
  have hlen : (st.out.length + 1) * 104 ≤ 140737488355328 := by omega
  have q1 : (kt = n) = False := by simp; omega
  have q2 : (ko = n) = False := by simp; omega
  have q3 : (n = kt) = False := by simp; omega
  have q4 : (n = ko) = False := by simp; omega
  have q5 : (kt = ko) = False := by simp [h.c]
  have q6 : (ko = kt) = False := by simp [Ne.symm h.c]
  have q7 : (kw = n) = False := by simp; omega
  have r1 : (0 : Nat) = 0 := rfl
  have r2 : (0 : Nat) = 0 := rfl
  have r3 : (0 : Nat) = 0 := rfl
  have r4 : (0 : Nat) = 0 := rfl
  have r5 : (0 : Nat) = 0 := rfl
  have r6 : (0 : Nat) = 0 := rfl
  have r7 : (0 : Nat) = 0 := rfl
  have r8 : (0 : Nat) = 0 := rfl
  have r9 : (0 : Nat) = 0 := rfl
  have r10 : (0 : Nat) = 0 := rfl
  have hnth : nth (w.s.map famAV) d.e.fam.toNat = famAV (famAt w.s d.e.fam) := nth_map famAV _ _ (by omega)
  refine acalls_of_awp Tryz.func79 rfl Tryz.ntmps79 (congrArg Array.toList Tryz.results79) (by simp) ?_
  simp only [go_sem]
  refine awp_reg zs [0, 3] fun K hK => ?_
  try simp only [go_sem, seval]
  refine hK _ _ _ ?_; clear hK K
  refine awp_block ?_
  refine awp_reg zs [0, 3, 17] fun K hK => ?_
  try simp only [go_sem, seval]
  refine hK _ _ _ ?_; clear hK K
  refine awp_cnd (fun hb => ?_) (fun hb => ?_)
  ·skip
   have c1 : d.masked = true := hb
   refine awp_reg1 zs [] fun K hK => ?_
   try simp only [go_sem, seval, ht, hwr2, q1]
   refine hK _ _ _ ?_; clear hK K
   try simp only [go_sem, seval]
   have g1 : ∀ (o : Option AObj), (H.put n o) kw = H kw := fun o => Heap.put_ne _ _ (by omega)
   have g2 : ∀ (o : Option AObj) k, k < n → (H.put n o) k = H k := fun o k hk => Heap.put_ne _ _ (by omega)
   first
   | (rw [show keptG w.s st d = { st with masked := st.masked + 1 } by simp [keptG, *]]
      exact kept_left hlo { st with masked := st.masked + 1 } (by omega) ((g1 _).trans hw) (hto0.mono (g2 _ ko hko) (fun k _ h2 => g2 _ k h2) (by omega)) (fun k hk _ _ _ => g2 _ k hk))
   | (rw [show keptG w.s st d = { st with expired := st.expired + 1 } by simp [keptG, *]]
      exact kept_left hlo { st with expired := st.expired + 1 } (by omega) ((g1 _).trans hw) (hto0.mono (g2 _ ko hko) (fun k _ h2 => g2 _ k h2) (by omega)) (fun k hk _ _ _ => g2 _ k hk))
   | (rw [show keptG w.s st d = { st with marks := st.marks + 1 } by simp [keptG, *]]
      exact kept_left hlo { st with marks := st.marks + 1 } (by omega) ((g1 _).trans hw) (hto0.mono (g2 _ ko hko) (fun k _ h2 => g2 _ k h2) (by omega)) (fun k hk _ _ _ => g2 _ k hk))
   | (rw [show keptG w.s st d = { st with above := st.above + 1 } by simp [keptG, *]]
      exact kept_left hlo { st with above := st.above + 1 } (by omega) ((g1 _).trans hw) (hto0.mono (g2 _ ko hko) (fun k _ h2 => g2 _ k h2) (by omega)) (fun k hk _ _ _ => g2 _ k hk))
   | (rw [show keptG w.s st d = { st with out := st.out ++ [x.e] } by rw [hxe2]; unfold keptG; rw [if_neg (by simp [c1]), if_neg (by simp [c2]), if_neg c3, if_pos c4]]
      exact kept_app hlo st xs x hxe hm (hmx.low (by omega)) (by omega) ((hlow kw (by omega)).trans ((g1 _).trans hw)) (fun k hk => (hlow k (by omega)).trans (g2 _ k hk)))
   | (rw [show keptG w.s st d = { st with out := st.out ++ [x.e] } by rw [hxe2]; unfold keptG; rw [if_neg (by simp [c1]), if_neg (by simp [c2]), if_neg c3, if_neg (by simp [c4]), if_neg c5, if_neg (by simp [c6])]]
      exact kept_app hlo st xs x hxe hm (hmx.low (by omega)) (by omega) ((hlow kw (by omega)).trans ((g1 _).trans hw)) (fun k hk => (hlow k (by omega)).trans (g2 _ k hk)))
   | (have hmh : ∀ (o o' : Option AObj), LEnt.mine (((H2.put n2 o).put (n2 + 1) (some (.arr 0 1 []))).put n2 o') n (n2 + 2) { x with e := { x.e with kind := 2, value := [] }, v := ⟨n2 + 1, 0, []⟩ } := fun o o' => ⟨(hmx.r.low (by omega)).mono (fun k _ h2 => by rw [Heap.put_ne _ _ (by omega), Heap.put_ne _ _ (by omega), Heap.put_ne _ _ (by omega)]) (by omega), (hmx.q.low (by omega)).mono (fun k _ h2 => by rw [Heap.put_ne _ _ (by omega), Heap.put_ne _ _ (by omega), Heap.put_ne _ _ (by omega)]) (by omega), ⟨(Heap.put_ne _ _ (by show n2 + 1 ≠ n2; omega)).trans (Heap.put_same _ _ _), rfl, by show n ≤ n2 + 1; omega, by show n2 + 1 < n2 + 2; omega⟩, hmx.rq, by have := hmx.q.hi; show x.q.k < n2 + 1; omega⟩
      have g3 : ∀ (o o' o2 : Option AObj) k, k < n → (((H2.put n2 o).put (n2 + 1) o2).put n2 o') k = H2 k := fun o o' o2 k hk => (Heap.put_ne _ _ (by omega)).trans ((Heap.put_ne _ _ (by omega)).trans (Heap.put_ne _ _ (by omega)))
      rw [show keptG w.s st d = { st with out := st.out ++ [{ x.e with kind := 2, value := [] }] } by rw [hxe2]; unfold keptG; rw [if_neg (by simp [c1]), if_neg (by simp [c2]), if_neg c3, if_neg (by simp [c4]), if_neg c5, if_pos c6]]
      exact kept_app hlo st xs { x with e := { x.e with kind := 2, value := [] }, v := ⟨n2 + 1, 0, []⟩ } hxe hm (hmh _ _) (by omega) ((g3 _ _ _ kw (by omega)).trans ((hlow kw (by omega)).trans ((g1 _).trans hw))) (fun k hk => (g3 _ _ _ k hk).trans ((hlow k (by omega)).trans (g2 _ k hk))))
  ·skip
   have c1 : d.masked = false := hb
   refine awp_reg zs [0, 3, 29] fun K hK => ?_
   try simp only [go_sem, seval]
   refine hK _ _ _ ?_; clear hK K
   refine awp_cnd (fun hb => ?_) (fun hb => ?_)
   ·skip
    have c2 : d.expired = true := hb
    refine awp_reg1 zs [] fun K hK => ?_
    try simp only [go_sem, seval, ht, hwr3, q1]
    refine hK _ _ _ ?_; clear hK K
    try simp only [go_sem, seval]
    have g1 : ∀ (o : Option AObj), (H.put n o) kw = H kw := fun o => Heap.put_ne _ _ (by omega)
    have g2 : ∀ (o : Option AObj) k, k < n → (H.put n o) k = H k := fun o k hk => Heap.put_ne _ _ (by omega)
    first
    | (rw [show keptG w.s st d = { st with masked := st.masked + 1 } by simp [keptG, *]]
       exact kept_left hlo { st with masked := st.masked + 1 } (by omega) ((g1 _).trans hw) (hto0.mono (g2 _ ko hko) (fun k _ h2 => g2 _ k h2) (by omega)) (fun k hk _ _ _ => g2 _ k hk))
    | (rw [show keptG w.s st d = { st with expired := st.expired + 1 } by simp [keptG, *]]
       exact kept_left hlo { st with expired := st.expired + 1 } (by omega) ((g1 _).trans hw) (hto0.mono (g2 _ ko hko) (fun k _ h2 => g2 _ k h2) (by omega)) (fun k hk _ _ _ => g2 _ k hk))
    | (rw [show keptG w.s st d = { st with marks := st.marks + 1 } by simp [keptG, *]]
       exact kept_left hlo { st with marks := st.marks + 1 } (by omega) ((g1 _).trans hw) (hto0.mono (g2 _ ko hko) (fun k _ h2 => g2 _ k h2) (by omega)) (fun k hk _ _ _ => g2 _ k hk))
    | (rw [show keptG w.s st d = { st with above := st.above + 1 } by simp [keptG, *]]
       exact kept_left hlo { st with above := st.above + 1 } (by omega) ((g1 _).trans hw) (hto0.mono (g2 _ ko hko) (fun k _ h2 => g2 _ k h2) (by omega)) (fun k hk _ _ _ => g2 _ k hk))
    | (rw [show keptG w.s st d = { st with out := st.out ++ [x.e] } by rw [hxe2]; unfold keptG; rw [if_neg (by simp [c1]), if_neg (by simp [c2]), if_neg c3, if_pos c4]]
       exact kept_app hlo st xs x hxe hm (hmx.low (by omega)) (by omega) ((hlow kw (by omega)).trans ((g1 _).trans hw)) (fun k hk => (hlow k (by omega)).trans (g2 _ k hk)))
    | (rw [show keptG w.s st d = { st with out := st.out ++ [x.e] } by rw [hxe2]; unfold keptG; rw [if_neg (by simp [c1]), if_neg (by simp [c2]), if_neg c3, if_neg (by simp [c4]), if_neg c5, if_neg (by simp [c6])]]
       exact kept_app hlo st xs x hxe hm (hmx.low (by omega)) (by omega) ((hlow kw (by omega)).trans ((g1 _).trans hw)) (fun k hk => (hlow k (by omega)).trans (g2 _ k hk)))
    | (have hmh : ∀ (o o' : Option AObj), LEnt.mine (((H2.put n2 o).put (n2 + 1) (some (.arr 0 1 []))).put n2 o') n (n2 + 2) { x with e := { x.e with kind := 2, value := [] }, v := ⟨n2 + 1, 0, []⟩ } := fun o o' => ⟨(hmx.r.low (by omega)).mono (fun k _ h2 => by rw [Heap.put_ne _ _ (by omega), Heap.put_ne _ _ (by omega), Heap.put_ne _ _ (by omega)]) (by omega), (hmx.q.low (by omega)).mono (fun k _ h2 => by rw [Heap.put_ne _ _ (by omega), Heap.put_ne _ _ (by omega), Heap.put_ne _ _ (by omega)]) (by omega), ⟨(Heap.put_ne _ _ (by show n2 + 1 ≠ n2; omega)).trans (Heap.put_same _ _ _), rfl, by show n ≤ n2 + 1; omega, by show n2 + 1 < n2 + 2; omega⟩, hmx.rq, by have := hmx.q.hi; show x.q.k < n2 + 1; omega⟩
       have g3 : ∀ (o o' o2 : Option AObj) k, k < n → (((H2.put n2 o).put (n2 + 1) o2).put n2 o') k = H2 k := fun o o' o2 k hk => (Heap.put_ne _ _ (by omega)).trans ((Heap.put_ne _ _ (by omega)).trans (Heap.put_ne _ _ (by omega)))
       rw [show keptG w.s st d = { st with out := st.out ++ [{ x.e with kind := 2, value := [] }] } by rw [hxe2]; unfold keptG; rw [if_neg (by simp [c1]), if_neg (by simp [c2]), if_neg c3, if_neg (by simp [c4]), if_neg c5, if_pos c6]]
       exact kept_app hlo st xs { x with e := { x.e with kind := 2, value := [] }, v := ⟨n2 + 1, 0, []⟩ } hxe hm (hmh _ _) (by omega) ((g3 _ _ _ kw (by omega)).trans ((hlow kw (by omega)).trans ((g1 _).trans hw))) (fun k hk => (g3 _ _ _ k hk).trans ((hlow k (by omega)).trans (g2 _ k hk))))
   ·skip
    have c2 : d.expired = false := hb
    refine awp_reg zs [0, 3, 41] fun K hK => ?_
    try simp only [go_sem, seval, ht, q1]
    repeat refine peel ?_
    refine hK _ _ _ ?_; clear hK K
    refine awp_cnd (fun hb => ?_) (fun hb => ?_)
    ·skip
     have c3 : d.nothing = true ∧ st.major = true := by cases h1 : d.nothing <;> simp_all
     refine awp_reg1 zs [] fun K hK => ?_
     try simp only [go_sem, seval, ht, hwr1, q1]
     refine hK _ _ _ ?_; clear hK K
     try simp only [go_sem, seval]
     have g1 : ∀ (o : Option AObj), (H.put n o) kw = H kw := fun o => Heap.put_ne _ _ (by omega)
     have g2 : ∀ (o : Option AObj) k, k < n → (H.put n o) k = H k := fun o k hk => Heap.put_ne _ _ (by omega)
     first
     | (rw [show keptG w.s st d = { st with masked := st.masked + 1 } by simp [keptG, *]]
        exact kept_left hlo { st with masked := st.masked + 1 } (by omega) ((g1 _).trans hw) (hto0.mono (g2 _ ko hko) (fun k _ h2 => g2 _ k h2) (by omega)) (fun k hk _ _ _ => g2 _ k hk))
     | (rw [show keptG w.s st d = { st with expired := st.expired + 1 } by simp [keptG, *]]
        exact kept_left hlo { st with expired := st.expired + 1 } (by omega) ((g1 _).trans hw) (hto0.mono (g2 _ ko hko) (fun k _ h2 => g2 _ k h2) (by omega)) (fun k hk _ _ _ => g2 _ k hk))
     | (rw [show keptG w.s st d = { st with marks := st.marks + 1 } by simp [keptG, *]]
        exact kept_left hlo { st with marks := st.marks + 1 } (by omega) ((g1 _).trans hw) (hto0.mono (g2 _ ko hko) (fun k _ h2 => g2 _ k h2) (by omega)) (fun k hk _ _ _ => g2 _ k hk))
     | (rw [show keptG w.s st d = { st with above := st.above + 1 } by simp [keptG, *]]
        exact kept_left hlo { st with above := st.above + 1 } (by omega) ((g1 _).trans hw) (hto0.mono (g2 _ ko hko) (fun k _ h2 => g2 _ k h2) (by omega)) (fun k hk _ _ _ => g2 _ k hk))
     | (rw [show keptG w.s st d = { st with out := st.out ++ [x.e] } by rw [hxe2]; unfold keptG; rw [if_neg (by simp [c1]), if_neg (by simp [c2]), if_neg c3, if_pos c4]]
        exact kept_app hlo st xs x hxe hm (hmx.low (by omega)) (by omega) ((hlow kw (by omega)).trans ((g1 _).trans hw)) (fun k hk => (hlow k (by omega)).trans (g2 _ k hk)))
     | (rw [show keptG w.s st d = { st with out := st.out ++ [x.e] } by rw [hxe2]; unfold keptG; rw [if_neg (by simp [c1]), if_neg (by simp [c2]), if_neg c3, if_neg (by simp [c4]), if_neg c5, if_neg (by simp [c6])]]
        exact kept_app hlo st xs x hxe hm (hmx.low (by omega)) (by omega) ((hlow kw (by omega)).trans ((g1 _).trans hw)) (fun k hk => (hlow k (by omega)).trans (g2 _ k hk)))
     | (have hmh : ∀ (o o' : Option AObj), LEnt.mine (((H2.put n2 o).put (n2 + 1) (some (.arr 0 1 []))).put n2 o') n (n2 + 2) { x with e := { x.e with kind := 2, value := [] }, v := ⟨n2 + 1, 0, []⟩ } := fun o o' => ⟨(hmx.r.low (by omega)).mono (fun k _ h2 => by rw [Heap.put_ne _ _ (by omega), Heap.put_ne _ _ (by omega), Heap.put_ne _ _ (by omega)]) (by omega), (hmx.q.low (by omega)).mono (fun k _ h2 => by rw [Heap.put_ne _ _ (by omega), Heap.put_ne _ _ (by omega), Heap.put_ne _ _ (by omega)]) (by omega), ⟨(Heap.put_ne _ _ (by show n2 + 1 ≠ n2; omega)).trans (Heap.put_same _ _ _), rfl, by show n ≤ n2 + 1; omega, by show n2 + 1 < n2 + 2; omega⟩, hmx.rq, by have := hmx.q.hi; show x.q.k < n2 + 1; omega⟩
        have g3 : ∀ (o o' o2 : Option AObj) k, k < n → (((H2.put n2 o).put (n2 + 1) o2).put n2 o') k = H2 k := fun o o' o2 k hk => (Heap.put_ne _ _ (by omega)).trans ((Heap.put_ne _ _ (by omega)).trans (Heap.put_ne _ _ (by omega)))
        rw [show keptG w.s st d = { st with out := st.out ++ [{ x.e with kind := 2, value := [] }] } by rw [hxe2]; unfold keptG; rw [if_neg (by simp [c1]), if_neg (by simp [c2]), if_neg c3, if_neg (by simp [c4]), if_neg c5, if_pos c6]]
        exact kept_app hlo st xs { x with e := { x.e with kind := 2, value := [] }, v := ⟨n2 + 1, 0, []⟩ } hxe hm (hmh _ _) (by omega) ((g3 _ _ _ kw (by omega)).trans ((hlow kw (by omega)).trans ((g1 _).trans hw))) (fun k hk => (g3 _ _ _ k hk).trans ((hlow k (by omega)).trans (g2 _ k hk))))
    ·skip
     have c3 : ¬ (d.nothing = true ∧ st.major = true) := by cases h1 : d.nothing <;> simp_all
     refine awp_reg zs [0, 3, 59] fun K hK => ?_
     try simp only [go_sem, seval]
     refine hK _ _ _ ?_; clear hK K
     refine awp_cnd (fun hb => ?_) (fun hb => ?_)
     ·skip
      have c4 : d.nothing = true := hb
      refine awp_drp1 rfl zs [] [.m, .m, .q, .q, .q, .q, .q, .w [2, 3, 4], .q, .w [], .q, .q, .w []] [0, 1, 2, 3, 4, 5, 6, 7, 8, 9, 10, 11, 12] [0, 1, 2, 3, 4, 5, 6, 7, 8, 9, 10, 11, 12] (by kernel_rfl) (fun _ _ _ _ _ h => h) fun K hK => ?_
      try simp only [go_sem, seval, ht, q1]
      repeat (first | (refine And.intro ?_ ?_; · first | exact ⟨rfl, by simp [AV.sz, AV.szs, AV.memOK, lentAV, Lp.av]⟩ | (simp; omega)) | refine peel ?_)
      refine callK_useK (args' := [entAV d.e]) Tryz.func64 rfl rfl rfl (o_retain_copied d.e he _ _) ?_ ?_
      rotate_left
      · intro p H' n' h; obtain ⟨x, hx, _⟩ := h; cases hx
      rintro r H2 n2 ⟨x, hr2, hxe2, hn2, hmx, hlow⟩
      cases hr2
      have r1 := (hlow kt (by omega)).trans ((Heap.put_ne _ _ (by omega)).trans ht)
      have r2 := (hlow ko (by omega)).trans ((Heap.put_ne _ _ (by omega)).trans hto)
      have r3 : (kt = n2) = False := by simp; omega
      have r4 : (ko = n2) = False := by simp; omega
      have r5 : (n2 = kt) = False := by simp; omega
      have r6 : (n2 = ko) = False := by simp; omega
      have r7 : (kt = n2 + 1) = False := by simp; omega
      have r8 : (ko = n2 + 1) = False := by simp; omega
      have r9 : (n2 + 1 = kt) = False := by simp; omega
      have r10 : (n2 + 1 = ko) = False := by simp; omega
      try simp only [go_sem, seval, q5, r1, r2]
      repeat (first | (refine And.intro ?_ ?_; · first | exact ⟨rfl, by simp [AV.sz, AV.szs, AV.memOK, lentAV, Lp.av]⟩ | (simp; omega)) | refine peel ?_)
      refine hK _ _ _ ?_; clear hK K
      try simp only [go_sem, seval]
      have g1 : ∀ (o : Option AObj), (H.put n o) kw = H kw := fun o => Heap.put_ne _ _ (by omega)
      have g2 : ∀ (o : Option AObj) k, k < n → (H.put n o) k = H k := fun o k hk => Heap.put_ne _ _ (by omega)
      first
      | (rw [show keptG w.s st d = { st with masked := st.masked + 1 } by simp [keptG, *]]
         exact kept_left hlo { st with masked := st.masked + 1 } (by omega) ((g1 _).trans hw) (hto0.mono (g2 _ ko hko) (fun k _ h2 => g2 _ k h2) (by omega)) (fun k hk _ _ _ => g2 _ k hk))
      | (rw [show keptG w.s st d = { st with expired := st.expired + 1 } by simp [keptG, *]]
         exact kept_left hlo { st with expired := st.expired + 1 } (by omega) ((g1 _).trans hw) (hto0.mono (g2 _ ko hko) (fun k _ h2 => g2 _ k h2) (by omega)) (fun k hk _ _ _ => g2 _ k hk))
      | (rw [show keptG w.s st d = { st with marks := st.marks + 1 } by simp [keptG, *]]
         exact kept_left hlo { st with marks := st.marks + 1 } (by omega) ((g1 _).trans hw) (hto0.mono (g2 _ ko hko) (fun k _ h2 => g2 _ k h2) (by omega)) (fun k hk _ _ _ => g2 _ k hk))
      | (rw [show keptG w.s st d = { st with above := st.above + 1 } by simp [keptG, *]]
         exact kept_left hlo { st with above := st.above + 1 } (by omega) ((g1 _).trans hw) (hto0.mono (g2 _ ko hko) (fun k _ h2 => g2 _ k h2) (by omega)) (fun k hk _ _ _ => g2 _ k hk))
      | (rw [show keptG w.s st d = { st with out := st.out ++ [x.e] } by rw [hxe2]; unfold keptG; rw [if_neg (by simp [c1]), if_neg (by simp [c2]), if_neg c3, if_pos c4]]
         exact kept_app hlo st xs x hxe hm (hmx.low (by omega)) (by omega) ((hlow kw (by omega)).trans ((g1 _).trans hw)) (fun k hk => (hlow k (by omega)).trans (g2 _ k hk)))
      | (rw [show keptG w.s st d = { st with out := st.out ++ [x.e] } by rw [hxe2]; unfold keptG; rw [if_neg (by simp [c1]), if_neg (by simp [c2]), if_neg c3, if_neg (by simp [c4]), if_neg c5, if_neg (by simp [c6])]]
         exact kept_app hlo st xs x hxe hm (hmx.low (by omega)) (by omega) ((hlow kw (by omega)).trans ((g1 _).trans hw)) (fun k hk => (hlow k (by omega)).trans (g2 _ k hk)))
      | (have hmh : ∀ (o o' : Option AObj), LEnt.mine (((H2.put n2 o).put (n2 + 1) (some (.arr 0 1 []))).put n2 o') n (n2 + 2) { x with e := { x.e with kind := 2, value := [] }, v := ⟨n2 + 1, 0, []⟩ } := fun o o' => ⟨(hmx.r.low (by omega)).mono (fun k _ h2 => by rw [Heap.put_ne _ _ (by omega), Heap.put_ne _ _ (by omega), Heap.put_ne _ _ (by omega)]) (by omega), (hmx.q.low (by omega)).mono (fun k _ h2 => by rw [Heap.put_ne _ _ (by omega), Heap.put_ne _ _ (by omega), Heap.put_ne _ _ (by omega)]) (by omega), ⟨(Heap.put_ne _ _ (by show n2 + 1 ≠ n2; omega)).trans (Heap.put_same _ _ _), rfl, by show n ≤ n2 + 1; omega, by show n2 + 1 < n2 + 2; omega⟩, hmx.rq, by have := hmx.q.hi; show x.q.k < n2 + 1; omega⟩
         have g3 : ∀ (o o' o2 : Option AObj) k, k < n → (((H2.put n2 o).put (n2 + 1) o2).put n2 o') k = H2 k := fun o o' o2 k hk => (Heap.put_ne _ _ (by omega)).trans ((Heap.put_ne _ _ (by omega)).trans (Heap.put_ne _ _ (by omega)))
         rw [show keptG w.s st d = { st with out := st.out ++ [{ x.e with kind := 2, value := [] }] } by rw [hxe2]; unfold keptG; rw [if_neg (by simp [c1]), if_neg (by simp [c2]), if_neg c3, if_neg (by simp [c4]), if_neg c5, if_pos c6]]
         exact kept_app hlo st xs { x with e := { x.e with kind := 2, value := [] }, v := ⟨n2 + 1, 0, []⟩ } hxe hm (hmh _ _) (by omega) ((g3 _ _ _ kw (by omega)).trans ((hlow kw (by omega)).trans ((g1 _).trans hw))) (fun k hk => (g3 _ _ _ k hk).trans ((hlow k (by omega)).trans (g2 _ k hk))))
     ·skip
      have c4 : d.nothing = false := hb
      refine awp_drw rfl zs [0, 3, 74] [.q, .q, .m, .q, .q, .q, .q, .q, .q, .q, .q, .q, .q, .q, .q, .q, .q, .q] (by kernel_rfl) (fun _ _ _ _ _ h => h) fun K hK => ?_
      try simp only [go_sem, seval, ht, hww, q1, q7, hnth]
      repeat refine peel ?_
      refine hK _ _ _ ?_; clear hK K
      refine awp_cnd (fun hb => ?_) (fun hb => ?_)
      ·skip
       have c5 : (famAt w.s d.e.fam).max < d.rank := by simpa using hb
       refine awp_reg1 zs [] fun K hK => ?_
       try simp only [go_sem, seval, ht, hwr4, q1]
       refine hK _ _ _ ?_; clear hK K
       try simp only [go_sem, seval]
       have g1 : ∀ (o : Option AObj), (H.put n o) kw = H kw := fun o => Heap.put_ne _ _ (by omega)
       have g2 : ∀ (o : Option AObj) k, k < n → (H.put n o) k = H k := fun o k hk => Heap.put_ne _ _ (by omega)
       first
       | (rw [show keptG w.s st d = { st with masked := st.masked + 1 } by simp [keptG, *]]
          exact kept_left hlo { st with masked := st.masked + 1 } (by omega) ((g1 _).trans hw) (hto0.mono (g2 _ ko hko) (fun k _ h2 => g2 _ k h2) (by omega)) (fun k hk _ _ _ => g2 _ k hk))
       | (rw [show keptG w.s st d = { st with expired := st.expired + 1 } by simp [keptG, *]]
          exact kept_left hlo { st with expired := st.expired + 1 } (by omega) ((g1 _).trans hw) (hto0.mono (g2 _ ko hko) (fun k _ h2 => g2 _ k h2) (by omega)) (fun k hk _ _ _ => g2 _ k hk))
       | (rw [show keptG w.s st d = { st with marks := st.marks + 1 } by simp [keptG, *]]
          exact kept_left hlo { st with marks := st.marks + 1 } (by omega) ((g1 _).trans hw) (hto0.mono (g2 _ ko hko) (fun k _ h2 => g2 _ k h2) (by omega)) (fun k hk _ _ _ => g2 _ k hk))
       | (rw [show keptG w.s st d = { st with above := st.above + 1 } by simp [keptG, *]]
          exact kept_left hlo { st with above := st.above + 1 } (by omega) ((g1 _).trans hw) (hto0.mono (g2 _ ko hko) (fun k _ h2 => g2 _ k h2) (by omega)) (fun k hk _ _ _ => g2 _ k hk))
       | (rw [show keptG w.s st d = { st with out := st.out ++ [x.e] } by rw [hxe2]; unfold keptG; rw [if_neg (by simp [c1]), if_neg (by simp [c2]), if_neg c3, if_pos c4]]
          exact kept_app hlo st xs x hxe hm (hmx.low (by omega)) (by omega) ((hlow kw (by omega)).trans ((g1 _).trans hw)) (fun k hk => (hlow k (by omega)).trans (g2 _ k hk)))
       | (rw [show keptG w.s st d = { st with out := st.out ++ [x.e] } by rw [hxe2]; unfold keptG; rw [if_neg (by simp [c1]), if_neg (by simp [c2]), if_neg c3, if_neg (by simp [c4]), if_neg c5, if_neg (by simp [c6])]]
          exact kept_app hlo st xs x hxe hm (hmx.low (by omega)) (by omega) ((hlow kw (by omega)).trans ((g1 _).trans hw)) (fun k hk => (hlow k (by omega)).trans (g2 _ k hk)))
       | (have hmh : ∀ (o o' : Option AObj), LEnt.mine (((H2.put n2 o).put (n2 + 1) (some (.arr 0 1 []))).put n2 o') n (n2 + 2) { x with e := { x.e with kind := 2, value := [] }, v := ⟨n2 + 1, 0, []⟩ } := fun o o' => ⟨(hmx.r.low (by omega)).mono (fun k _ h2 => by rw [Heap.put_ne _ _ (by omega), Heap.put_ne _ _ (by omega), Heap.put_ne _ _ (by omega)]) (by omega), (hmx.q.low (by omega)).mono (fun k _ h2 => by rw [Heap.put_ne _ _ (by omega), Heap.put_ne _ _ (by omega), Heap.put_ne _ _ (by omega)]) (by omega), ⟨(Heap.put_ne _ _ (by show n2 + 1 ≠ n2; omega)).trans (Heap.put_same _ _ _), rfl, by show n ≤ n2 + 1; omega, by show n2 + 1 < n2 + 2; omega⟩, hmx.rq, by have := hmx.q.hi; show x.q.k < n2 + 1; omega⟩
          have g3 : ∀ (o o' o2 : Option AObj) k, k < n → (((H2.put n2 o).put (n2 + 1) o2).put n2 o') k = H2 k := fun o o' o2 k hk => (Heap.put_ne _ _ (by omega)).trans ((Heap.put_ne _ _ (by omega)).trans (Heap.put_ne _ _ (by omega)))
          rw [show keptG w.s st d = { st with out := st.out ++ [{ x.e with kind := 2, value := [] }] } by rw [hxe2]; unfold keptG; rw [if_neg (by simp [c1]), if_neg (by simp [c2]), if_neg c3, if_neg (by simp [c4]), if_neg c5, if_pos c6]]
          exact kept_app hlo st xs { x with e := { x.e with kind := 2, value := [] }, v := ⟨n2 + 1, 0, []⟩ } hxe hm (hmh _ _) (by omega) ((g3 _ _ _ kw (by omega)).trans ((hlow kw (by omega)).trans ((g1 _).trans hw))) (fun k hk => (g3 _ _ _ k hk).trans ((hlow k (by omega)).trans (g2 _ k hk))))
      ·skip
       have c5 : ¬ (famAt w.s d.e.fam).max < d.rank := by simpa using hb
       refine awp_reg zs [0, 3, 101] fun K hK => ?_
       try simp only [go_sem, seval]
       refine hK _ _ _ ?_; clear hK K
       refine awp_cnd (fun hb => ?_) (fun hb => ?_)
       ·skip
        have c6 : d.husk = true := hb
        refine awp_reg zs [0, 4] fun K hK => ?_
        try simp only [go_sem, seval]
        refine callK_useK (args' := [entAV d.e]) Tryz.func64 rfl rfl rfl (o_retain_copied d.e he _ _) ?_ ?_
        rotate_left
        · intro p H' n' h; obtain ⟨x, hx, _⟩ := h; cases hx
        rintro r H2 n2 ⟨x, hr2, hxe2, hn2, hmx, hlow⟩
        cases hr2
        have r1 := (hlow kt (by omega)).trans ((Heap.put_ne _ _ (by omega)).trans ht)
        have r2 := (hlow ko (by omega)).trans ((Heap.put_ne _ _ (by omega)).trans hto)
        have r3 : (kt = n2) = False := by simp; omega
        have r4 : (ko = n2) = False := by simp; omega
        have r5 : (n2 = kt) = False := by simp; omega
        have r6 : (n2 = ko) = False := by simp; omega
        have r7 : (kt = n2 + 1) = False := by simp; omega
        have r8 : (ko = n2 + 1) = False := by simp; omega
        have r9 : (n2 + 1 = kt) = False := by simp; omega
        have r10 : (n2 + 1 = ko) = False := by simp; omega
        try simp only [go_sem, seval]
        refine hK _ _ _ ?_; clear hK K
        refine awp_reg zs [0, 4] fun K hK => ?_
        try simp only [go_sem, seval]
        refine hK _ _ _ ?_; clear hK K
        refine awp_adopt_obj n2 1 (els' := [lentAV { x with e := { x.e with kind := 2, value := [] }, v := ⟨n2 + 1, 0, []⟩ }]) (Heap.put_same _ _ _) ⟨Adp.agg ⟨.refl _ _, .refl _ _, .refl _ _, .refl _ _, .refl _ _, .refl _ _, Adp.nilsl _, trivial⟩, trivial⟩ ?_
        refine awp_drw1 rfl zs [] [.m, .m, .q, .q, .q, .q, .q, .w [], .q, .q, .w []] (by kernel_rfl) (fun _ _ _ _ _ h => h) fun K hK => ?_
        try simp only [go_sem, seval, q5, r1, r2, r3, r4, r7, r8]
        repeat (first | (refine And.intro ?_ ?_; · first | exact ⟨rfl, by simp [AV.sz, AV.szs, AV.memOK, lentAV, Lp.av]⟩ | (simp; omega)) | refine peel ?_)
        refine hK _ _ _ ?_; clear hK K
        try simp only [go_sem, seval]
        have g1 : ∀ (o : Option AObj), (H.put n o) kw = H kw := fun o => Heap.put_ne _ _ (by omega)
        have g2 : ∀ (o : Option AObj) k, k < n → (H.put n o) k = H k := fun o k hk => Heap.put_ne _ _ (by omega)
        first
        | (rw [show keptG w.s st d = { st with masked := st.masked + 1 } by simp [keptG, *]]
           exact kept_left hlo { st with masked := st.masked + 1 } (by omega) ((g1 _).trans hw) (hto0.mono (g2 _ ko hko) (fun k _ h2 => g2 _ k h2) (by omega)) (fun k hk _ _ _ => g2 _ k hk))
        | (rw [show keptG w.s st d = { st with expired := st.expired + 1 } by simp [keptG, *]]
           exact kept_left hlo { st with expired := st.expired + 1 } (by omega) ((g1 _).trans hw) (hto0.mono (g2 _ ko hko) (fun k _ h2 => g2 _ k h2) (by omega)) (fun k hk _ _ _ => g2 _ k hk))
        | (rw [show keptG w.s st d = { st with marks := st.marks + 1 } by simp [keptG, *]]
           exact kept_left hlo { st with marks := st.marks + 1 } (by omega) ((g1 _).trans hw) (hto0.mono (g2 _ ko hko) (fun k _ h2 => g2 _ k h2) (by omega)) (fun k hk _ _ _ => g2 _ k hk))
        | (rw [show keptG w.s st d = { st with above := st.above + 1 } by simp [keptG, *]]
           exact kept_left hlo { st with above := st.above + 1 } (by omega) ((g1 _).trans hw) (hto0.mono (g2 _ ko hko) (fun k _ h2 => g2 _ k h2) (by omega)) (fun k hk _ _ _ => g2 _ k hk))
        | (rw [show keptG w.s st d = { st with out := st.out ++ [x.e] } by rw [hxe2]; unfold keptG; rw [if_neg (by simp [c1]), if_neg (by simp [c2]), if_neg c3, if_pos c4]]
           exact kept_app hlo st xs x hxe hm (hmx.low (by omega)) (by omega) ((hlow kw (by omega)).trans ((g1 _).trans hw)) (fun k hk => (hlow k (by omega)).trans (g2 _ k hk)))
        | (rw [show keptG w.s st d = { st with out := st.out ++ [x.e] } by rw [hxe2]; unfold keptG; rw [if_neg (by simp [c1]), if_neg (by simp [c2]), if_neg c3, if_neg (by simp [c4]), if_neg c5, if_neg (by simp [c6])]]
           exact kept_app hlo st xs x hxe hm (hmx.low (by omega)) (by omega) ((hlow kw (by omega)).trans ((g1 _).trans hw)) (fun k hk => (hlow k (by omega)).trans (g2 _ k hk)))
        | (have hmh : ∀ (o o' : Option AObj), LEnt.mine (((H2.put n2 o).put (n2 + 1) (some (.arr 0 1 []))).put n2 o') n (n2 + 2) { x with e := { x.e with kind := 2, value := [] }, v := ⟨n2 + 1, 0, []⟩ } := fun o o' => ⟨(hmx.r.low (by omega)).mono (fun k _ h2 => by rw [Heap.put_ne _ _ (by omega), Heap.put_ne _ _ (by omega), Heap.put_ne _ _ (by omega)]) (by omega), (hmx.q.low (by omega)).mono (fun k _ h2 => by rw [Heap.put_ne _ _ (by omega), Heap.put_ne _ _ (by omega), Heap.put_ne _ _ (by omega)]) (by omega), ⟨(Heap.put_ne _ _ (by show n2 + 1 ≠ n2; omega)).trans (Heap.put_same _ _ _), rfl, by show n ≤ n2 + 1; omega, by show n2 + 1 < n2 + 2; omega⟩, hmx.rq, by have := hmx.q.hi; show x.q.k < n2 + 1; omega⟩
           have g3 : ∀ (o o' o2 : Option AObj) k, k < n → (((H2.put n2 o).put (n2 + 1) o2).put n2 o') k = H2 k := fun o o' o2 k hk => (Heap.put_ne _ _ (by omega)).trans ((Heap.put_ne _ _ (by omega)).trans (Heap.put_ne _ _ (by omega)))
           rw [show keptG w.s st d = { st with out := st.out ++ [{ x.e with kind := 2, value := [] }] } by rw [hxe2]; unfold keptG; rw [if_neg (by simp [c1]), if_neg (by simp [c2]), if_neg c3, if_neg (by simp [c4]), if_neg c5, if_pos c6]]
           exact kept_app hlo st xs { x with e := { x.e with kind := 2, value := [] }, v := ⟨n2 + 1, 0, []⟩ } hxe hm (hmh _ _) (by omega) ((g3 _ _ _ kw (by omega)).trans ((hlow kw (by omega)).trans ((g1 _).trans hw))) (fun k hk => (g3 _ _ _ k hk).trans ((hlow k (by omega)).trans (g2 _ k hk))))
       ·skip
        have c6 : d.husk = false := hb
        refine awp_drp1 rfl zs [] [.m, .m, .q, .q, .q, .q, .q, .w [2, 3, 4], .q, .w [], .q, .q, .w []] [0, 1, 2, 3, 4, 5, 6, 7, 8, 9, 10, 11, 12] [0, 1, 2, 3, 4, 5, 6, 7, 8, 9, 10, 11, 12] (by kernel_rfl) (fun _ _ _ _ _ h => h) fun K hK => ?_
        try simp only [go_sem, seval, ht, q1]
        repeat (first | (refine And.intro ?_ ?_; · first | exact ⟨rfl, by simp [AV.sz, AV.szs, AV.memOK, lentAV, Lp.av]⟩ | (simp; omega)) | refine peel ?_)
        refine callK_useK (args' := [entAV d.e]) Tryz.func64 rfl rfl rfl (o_retain_copied d.e he _ _) ?_ ?_
        rotate_left
        · intro p H' n' h; obtain ⟨x, hx, _⟩ := h; cases hx
        rintro r H2 n2 ⟨x, hr2, hxe2, hn2, hmx, hlow⟩
        cases hr2
        have r1 := (hlow kt (by omega)).trans ((Heap.put_ne _ _ (by omega)).trans ht)
        have r2 := (hlow ko (by omega)).trans ((Heap.put_ne _ _ (by omega)).trans hto)
        have r3 : (kt = n2) = False := by simp; omega
        have r4 : (ko = n2) = False := by simp; omega
        have r5 : (n2 = kt) = False := by simp; omega
        have r6 : (n2 = ko) = False := by simp; omega
        have r7 : (kt = n2 + 1) = False := by simp; omega
        have r8 : (ko = n2 + 1) = False := by simp; omega
        have r9 : (n2 + 1 = kt) = False := by simp; omega
        have r10 : (n2 + 1 = ko) = False := by simp; omega
        try simp only [go_sem, seval, q5, r1, r2]
        repeat (first | (refine And.intro ?_ ?_; · first | exact ⟨rfl, by simp [AV.sz, AV.szs, AV.memOK, lentAV, Lp.av]⟩ | (simp; omega)) | refine peel ?_)
        refine hK _ _ _ ?_; clear hK K
        try simp only [go_sem, seval]
        have g1 : ∀ (o : Option AObj), (H.put n o) kw = H kw := fun o => Heap.put_ne _ _ (by omega)
        have g2 : ∀ (o : Option AObj) k, k < n → (H.put n o) k = H k := fun o k hk => Heap.put_ne _ _ (by omega)
        first
        | (rw [show keptG w.s st d = { st with masked := st.masked + 1 } by simp [keptG, *]]
           exact kept_left hlo { st with masked := st.masked + 1 } (by omega) ((g1 _).trans hw) (hto0.mono (g2 _ ko hko) (fun k _ h2 => g2 _ k h2) (by omega)) (fun k hk _ _ _ => g2 _ k hk))
        | (rw [show keptG w.s st d = { st with expired := st.expired + 1 } by simp [keptG, *]]
           exact kept_left hlo { st with expired := st.expired + 1 } (by omega) ((g1 _).trans hw) (hto0.mono (g2 _ ko hko) (fun k _ h2 => g2 _ k h2) (by omega)) (fun k hk _ _ _ => g2 _ k hk))
        | (rw [show keptG w.s st d = { st with marks := st.marks + 1 } by simp [keptG, *]]
           exact kept_left hlo { st with marks := st.marks + 1 } (by omega) ((g1 _).trans hw) (hto0.mono (g2 _ ko hko) (fun k _ h2 => g2 _ k h2) (by omega)) (fun k hk _ _ _ => g2 _ k hk))
        | (rw [show keptG w.s st d = { st with above := st.above + 1 } by simp [keptG, *]]
           exact kept_left hlo { st with above := st.above + 1 } (by omega) ((g1 _).trans hw) (hto0.mono (g2 _ ko hko) (fun k _ h2 => g2 _ k h2) (by omega)) (fun k hk _ _ _ => g2 _ k hk))
        | (rw [show keptG w.s st d = { st with out := st.out ++ [x.e] } by rw [hxe2]; unfold keptG; rw [if_neg (by simp [c1]), if_neg (by simp [c2]), if_neg c3, if_pos c4]]
           exact kept_app hlo st xs x hxe hm (hmx.low (by omega)) (by omega) ((hlow kw (by omega)).trans ((g1 _).trans hw)) (fun k hk => (hlow k (by omega)).trans (g2 _ k hk)))
        | (rw [show keptG w.s st d = { st with out := st.out ++ [x.e] } by rw [hxe2]; unfold keptG; rw [if_neg (by simp [c1]), if_neg (by simp [c2]), if_neg c3, if_neg (by simp [c4]), if_neg c5, if_neg (by simp [c6])]]
           exact kept_app hlo st xs x hxe hm (hmx.low (by omega)) (by omega) ((hlow kw (by omega)).trans ((g1 _).trans hw)) (fun k hk => (hlow k (by omega)).trans (g2 _ k hk)))
        | (have hmh : ∀ (o o' : Option AObj), LEnt.mine (((H2.put n2 o).put (n2 + 1) (some (.arr 0 1 []))).put n2 o') n (n2 + 2) { x with e := { x.e with kind := 2, value := [] }, v := ⟨n2 + 1, 0, []⟩ } := fun o o' => ⟨(hmx.r.low (by omega)).mono (fun k _ h2 => by rw [Heap.put_ne _ _ (by omega), Heap.put_ne _ _ (by omega), Heap.put_ne _ _ (by omega)]) (by omega), (hmx.q.low (by omega)).mono (fun k _ h2 => by rw [Heap.put_ne _ _ (by omega), Heap.put_ne _ _ (by omega), Heap.put_ne _ _ (by omega)]) (by omega), ⟨(Heap.put_ne _ _ (by show n2 + 1 ≠ n2; omega)).trans (Heap.put_same _ _ _), rfl, by show n ≤ n2 + 1; omega, by show n2 + 1 < n2 + 2; omega⟩, hmx.rq, by have := hmx.q.hi; show x.q.k < n2 + 1; omega⟩
           have g3 : ∀ (o o' o2 : Option AObj) k, k < n → (((H2.put n2 o).put (n2 + 1) o2).put n2 o') k = H2 k := fun o o' o2 k hk => (Heap.put_ne _ _ (by omega)).trans ((Heap.put_ne _ _ (by omega)).trans (Heap.put_ne _ _ (by omega)))
           rw [show keptG w.s st d = { st with out := st.out ++ [{ x.e with kind := 2, value := [] }] } by rw [hxe2]; unfold keptG; rw [if_neg (by simp [c1]), if_neg (by simp [c2]), if_neg c3, if_neg (by simp [c4]), if_neg c5, if_pos c6]]
           exact kept_app hlo st xs { x with e := { x.e with kind := 2, value := [] }, v := ⟨n2 + 1, 0, []⟩ } hxe hm (hmh _ _) (by omega) ((g3 _ _ _ kw (by omega)).trans ((hlow kw (by omega)).trans ((g1 _).trans hw))) (fun k hk => (g3 _ _ _ k hk).trans ((hlow k (by omega)).trans (g2 _ k hk))))
end Go.Proofs.YtijhkfhflpmajaaGreat
namespace Go.Proofs.YtijhkfhflpmajaaGreat
open Go Go.Sx Go.Rt Go.Proofs
theorem kept_tkOK (kw kt ko lo : Nat) (h : KSep kw kt ko lo) : TkOK (keptTk kw kt ko lo h) KSt.ok :=
  ⟨fun w st d H n ha hok h0 h1 hf => kept_group kw kt ko lo h w st d H n ha hok h0 h1 hf, fun w st H n ha hok => kept_older kw kt ko lo h w st H n ha hok, fun w st e b H n ha hok he => kept_mark kw kt ko lo h w st e b H n ha hok he⟩
theorem c_retain_walk_run (T : Tk Tryz.prog) (ok : T.σ → Prop) (hT : TkOK T ok) (M : Nat) (inv : Nat → T.σ → Prop) (hI : TkInv T ok M inv) (s : List Fml) (httl : ∀ f ∈ s, 0 ≤ f.ttl ∧ f.ttl ≤ 1099511627776)
    (l : List Ent) (w : Wlk) (st : T.σ) (H : Heap) (n : Nat) (ha : Ahead T H n w st) (hM : 2 * l.length + 2 ≤ M) (hl : l.length ≤ 1000000000000) (hst : inv 0 st) (hw : WRk s 0 w) (hg : ∀ e ∈ l, goodE s e) :
    ACalls Tryz.prog 43 [.loc T.kw 0 0 0 [], entsAV l] H n (LeftU T H n (runW T l w st).1 (runW T l w st).2) := by
  obtain ⟨hkw, hkeys, hw0, htk0⟩ := ha
  refine acalls_of_awp Tryz.func43 rfl Tryz.ntmps43 (congrArg Array.toList Tryz.results43) (by simp) ?_
  simp only [go_sem]
  refine awp_seq_k fun K1 hK1 => ?_
  refine awp_rq zs [0, 6, 7, 8] ?_
  refine awp_block ?_
  refine awp_loop (fun T' H' n' => ∃ (i : Nat) (w1 : Wlk) (s1 : T.σ), i ≤ l.length ∧ T' = tl [(0, .loc T.kw 0 0 0 []), (6, .sl 7 (l.map entAV)), (7, .int .i64 l.length), (8, .int .i64 i)] ∧ n ≤ n' ∧ H' T.kw = some (.arr 0 25 [walkAV T w1]) ∧ T.holds s1 H' n' ∧ (∀ k, k < n → k ≠ T.kw → ¬ T.keys k → H' k = H k) ∧ runP T (l.drop i) (w1, s1) = runP T l (w, st) ∧ inv (2 * i) s1 ∧ WRk s i w1) (fun T' _ _ => l.length - iv (T' 8)) ?_ ?_
  ·skip
   exact ⟨0, w, st, Nat.zero_le _, by rw [List.length_map]; rfl, Nat.le_refl _, hw0, htk0, fun k _ _ _ => rfl, rfl, hst, hw⟩
  intro T1 H1 n1
  rintro ⟨i, w1, s1, hi, rfl, hn, hwk, htk, hrest, hrun, hinv, hrk⟩
  refine awp_rq zs [0, 6, 7, 8, 9] ?_
  refine awp_seq_k fun K2 hK2 => ?_
  refine awp_cnd (fun hb => ?_) (fun hb => ?_)
  ·skip
   have hlt : i < l.length := by simpa using hb
   rw [drop_cons l i hlt, runP] at hrun
   have hmem : l.getD i default ∈ l := by simp [List.getD, List.getElem?_eq_getElem hlt]
   have hgood := hg _ hmem
   have hnth : nth (l.map entAV) i = entAV (l.getD i default) := nth_map entAV l i hlt
   refine awp_skip ?_
   try simp only [go_sem, seval]
   refine hK2 _ _ _ ?_
   first | clear hK2 K2 | skip
   refine awp_seq_k fun K3 hK3 => ?_
   refine awp_block ?_
   refine awp_reg zs [0, 5, 6, 7, 8] fun K hK => ?_
   try simp only [go_sem, seval, Int.toNat_natCast, hnth]
   repeat refine peel ?_
   refine hK _ _ _ ?_; clear hK K
   refine awp_reg1 zs [0, 6, 7, 8] fun K hK => ?_
   try simp only [go_sem, seval]
   refine callK_useK (args' := [.loc T.kw 0 0 0 [], entAV (l.getD i default)]) Tryz.func77 rfl rfl rfl (c_retain_walk_next T ok hT w1 s1 (l.getD i default) _ (n1 + 1) ⟨by omega, fun k hk => by have := hkeys k hk; omega, (Heap.put_ne _ _ (by omega)).trans hwk, T.ext s1 H1 _ n1 _ (by omega) (fun k hk _ => Heap.put_ne _ _ (by omega)) htk⟩ (hI.ok _ _ (by omega) hinv) (hI.ok _ _ (by omega) (hI.nt1 hinv)) (hrk.wok (by omega) httl) hgood.2.2.1) ?_ ?_
   rotate_left
   · intro p H' n' h; cases h.1
   intro r H2 n2 ⟨hr2, hL⟩
   cases hr2
   refine hK _ _ _ ?_; clear hK K
   try simp only [go_sem, seval]
   refine hK3 _ _ _ ?_
   first | clear hK3 K3 | skip
   refine awp_reg1 zs [0, 6, 7, 8] fun K hK => ?_
   try simp only [go_sem, seval]
   refine hK _ _ _ ?_; clear hK K
   try simp only [go_sem, seval]
   have hle := hL.le
   refine ⟨⟨i + 1, _, _, by omega, by rw [Rt.w1 (by omega)], by omega, hL.walk, hL.tk, fun k hk h1 h2 => ?_, hrun, by have := hI.next (w := w1) (e := l.getD i default) hinv; exact this, by have := hrk.next hgood (by omega); exact this.mono (by omega)⟩, by rw [Rt.w1 (by omega)]; simp; omega⟩
   rw [hL.rest k (by omega) h1 h2]; exact (Heap.put_ne _ _ (by omega)).trans (hrest k hk h1 h2)
  ·skip
   have hge : i = l.length := by simp at hb; omega
   rw [hge, List.drop_length, runP] at hrun
   refine awp_exit ?_
   try simp only [go_sem, seval]
   refine hK1 _ _ _ ?_
   first | clear hK1 K1 | skip
   refine awp_reg1 zs [] fun K hK => ?_
   try simp only [go_sem, seval]
   refine callK_useK (args' := [.loc T.kw 0 0 0 []]) Tryz.func78 rfl rfl rfl (c_retain_walk_close T ok hT w1 s1 H1 n1 ⟨by omega, fun k hk => by have := hkeys k hk; omega, hwk, htk⟩ (hI.ok _ _ (by omega) hinv) (hrk.wok (by omega) httl)) ?_ ?_
   rotate_left
   · intro p H' n' h; cases h.1
   intro r H2 n2 ⟨hr2, hL⟩
   cases hr2
   refine hK _ _ _ ?_; clear hK K
   try simp only [go_sem, seval]
   refine ⟨rfl, ?_⟩
   unfold runW; rw [← hrun]
   exact hL.up hn hrest
theorem c_retain_keeping (s : List Fml) (clock low : Int) (major : Bool) (H : Heap) (n : Nat) :
    ACalls Tryz.prog 45 [schAV s, .int .i64 clock, .bool major, .int .i64 low] H n fun res H' n' => ∃ (kw kt ko lo : Nat) (h : KSep kw kt ko lo), res = .val (.tup [.loc kw 0 0 0 [], .loc kt 0 0 0 []]) ∧ n ≤ kw ∧ n ≤ kt ∧ n ≤ ko ∧ n ≤ n' ∧ lo = n' ∧ Ahead (keptTk kw kt ko lo h) H' n' (wlk0 s clock) (kst0 major low) ∧ ∀ k, k < n → H' k = H k := by
  refine acalls_of_awp Tryz.func45 rfl Tryz.ntmps45 (congrArg Array.toList Tryz.results45) (by simp) ?_
  simp only [go_sem]
  refine awp_rq zs [1, 2, 3, 4] ?_
  refine awp_rq zs [1, 4, 10] ?_
  refine awp_rq zs [10] ?_
  refine awp_wk_obj (n + 2) (els' := [walkAV (keptTk (n + 2) (n + 1) (n + 3) (n + 4) ⟨by omega, by omega, by omega, by omega, by omega, by omega⟩) (wlk0 s clock)]) ((Heap.put_ne _ _ (by omega)).trans (Heap.put_same _ _ _)) ⟨Wk.agg ⟨.refl _, .refl _, .refl _, .refl _, Wk.agg ⟨Wk.nilsl 1, .refl _, Wk.nilsl 1, .refl _, .refl _, .refl _, Wk.nilsl 1, trivial⟩, .refl _, .refl _, .refl _, .refl _, Wk.agg ⟨Wk.agg ⟨Wk.nilsl 1, .refl _, Wk.nilsl 1, .refl _, .refl _, .refl _, Wk.nilsl 1, trivial⟩, .refl _, trivial⟩, trivial⟩, trivial⟩ ?_
  refine awp_adopt_obj (n + 1) 7 (els' := [keptAV (n + 2) (n + 3) (kst0 major low)]) ((Heap.put_ne _ _ (by omega)).trans (Heap.put_same _ _ _)) ⟨Adp.agg ⟨.refl _ _, .refl _ _, Adp.nilsl _, .refl _ _, .refl _ _, trivial⟩, trivial⟩ ?_
  refine awp_reg zs [8, 9] fun K hK => ?_
  try simp only [go_sem, seval, keptAV]
  refine hK _ _ _ ?_; clear hK K
  refine awp_ret ?_
  try simp only [go_sem, seval]
  refine ⟨n + 2, n + 1, n + 3, n + 4, ⟨by omega, by omega, by omega, by omega, by omega, by omega⟩, rfl, by omega, by omega, by omega, by omega, rfl, ⟨by simp [keptTk], fun k hk => by rcases hk with rfl | rfl <;> omega, ?_, by omega, ?_, [], rfl, ?_, MineL.nil _ _ _⟩, fun k hk => ?_⟩
  · simp [Heap.put, keptTk, walkAV, tkAV, wlk0, schAV, entAV, bys]
  · simp [Heap.put, keptTk, keptAV, kst0]
  · simp [Heap.put]
  · have h0 : k ≠ n := by omega
    have h1 : ∀ j, k ≠ n + j := fun j => by omega
    have h2 : ∀ i j, k ≠ n + i + j := fun i j => by omega
    simp [Heap.put, h0, h1, h2]
end Go.Proofs.YtijhkfhflpmajaaGreat
namespace Go.Proofs.YtijhkfhflpmajaaGreat
open Go Go.Sx Go.Rt Go.Proofs
def cmpAV : AV := .fn (.func 66) [] []
structure SortOf (α : Type) where
  f : α → AV
  cmp : α → α → Int
  sz : ∀ a, (f a).sz = 7
  agg : ∀ a, (f a).isAgg = true
  mem : ∀ a, (f a).memOK = true
  str : ∀ a, strip true (f a) = f a
def SortOf.lt {α : Type} (S : SortOf α) (a b : α) : Bool := decide (S.cmp a b < 0)
theorem SortOf.nthE {α : Type} [Inhabited α] (S : SortOf α) (L : List α) (j : Nat) (h : j < L.length) : nth (L.map S.f) j = S.f (atL L j) := nth_map S.f L j h
theorem SortOf.lenE {α : Type} (S : SortOf α) (L : List α) : (L.map S.f).length = L.length := List.length_map _
def CmpC {α : Type} (S : SortOf α) (k : Nat) (H : Heap) : Prop := ∀ H' n a b, (∀ j, j ≠ k → H' j = H j) → Ret Tryz.prog 66 [S.f a, S.f b] H' n (.int .i64 (S.cmp a b)) H' n
theorem CmpC.put {α : Type} {S : SortOf α} {k : Nat} {H : Heap} (h : CmpC S k H) (o : Option AObj) : CmpC S k (H.put k o) := fun H' n a b hj => h H' n a b fun j hne => (hj j hne).trans (Heap.put_ne _ _ hne)
theorem put_id {H : Heap} {k : Nat} {o : Option AObj} (h : H k = o) : H.put k o = H := by
  funext j; simp only [Heap.put]; split
  · rename_i e; rw [e, h]
  · rfl
theorem wAdd {a b : Nat} (h : a + b < 4611686018427387904) : IntKind.i64.wrap ((a : Int) + (b : Int)) = ((a + b : Nat) : Int) := by rw [w64 (by omega) (by omega)]; omega
theorem wSub {a b : Nat} (h : b ≤ a) (h' : a < 4611686018427387904) : IntKind.i64.wrap ((a : Int) - (b : Int)) = ((a - b : Nat) : Int) := by rw [w64 (by omega) (by omega)]; omega
theorem wSub1 {a : Nat} (h : 1 ≤ a) (h' : a < 4611686018427387904) : IntKind.i64.wrap ((a : Int) - 1) = ((a - 1 : Nat) : Int) := by rw [w64 (by omega) (by omega)]; omega
theorem CmpC.s {α : Type} {S : SortOf α} {k : Nat} {H : Heap} (h : CmpC S k H) (H' : Heap) (n : Nat) (a b : α) (hj : ∀ j, j ≠ k → H' j = H j) : Ret Tryz.prog 66 [strip true (S.f a), strip true (S.f b)] H' n (.int .i64 (S.cmp a b)) H' n := by
  rw [S.str, S.str]; exact h H' n a b hj
def entS : SortOf Ent := ⟨entAV, compE, entAV_sz, entAV_isAgg, entAV_memOK, fun _ => rfl⟩
theorem cmpC_ent (k : Nat) (H : Heap) : CmpC entS k H := fun H' n a b _ => c_cell_Compare a b _ _
theorem entS_lt : entS.lt = ltE := rfl
theorem c_slices_swapRange {α : Type} [Inhabited α] (S : SortOf α) (k ver : Nat) (l : List α) (len : Nat) (hll : l.length = len) (a b m : Nat) (H : Heap) (n : Nat) (hk : k < n) (hH : H k = some (.arr ver 7 (l.map S.f))) (ha : a + m ≤ len) (hmb : b + m ≤ len) (hl : len < 2305843009213693952) :
    Ret Tryz.prog 139 [.osl k ver 0 len, .int .i64 a, .int .i64 b, .int .i64 m, cmpAV] H n (.tup []) (H.put k (some (.arr ver 7 ((swapN l (fun i => a + i) (fun i => b + i) m).map S.f)))) n := by
  refine acalls_of_awp Tryz.func139 rfl Tryz.ntmps139 (congrArg Array.toList Tryz.results139) (by simp) ?_
  simp only [go_sem]
  refine awp_rq zs [0, 1, 2, 3, 10] ?_
  refine awp_block ?_
  refine awp_loop (fun T' H' n' => ∃ i : Nat, i ≤ m ∧ T' = tl [(0, .osl k ver 0 len), (1, .int .i64 a), (2, .int .i64 b), (3, .int .i64 m), (10, .int .i64 i)] ∧ H' = H.put k (some (.arr ver 7 ((swapN l (fun i => a + i) (fun i => b + i) i).map S.f))) ∧ n' = n) (fun T' _ _ => m - iv (T' 10)) ?_ ?_
  ·skip
   exact ⟨0, by omega, rfl, by rw [swapN, put_id hH], rfl⟩
  intro T1 H1 n1
  rintro ⟨i, hi, rfl, rfl, rfl⟩
  refine awp_seq_k fun K1 hK1 => ?_
  refine awp_rq zs [0, 1, 2, 3, 10, 13] ?_
  refine awp_cnd (fun hb => ?_) (fun hb => ?_)
  ·skip
   have hlt : i < m := by simpa using hb
   have wa := wAdd (a := a) (b := i) (by omega)
   have wb := wAdd (a := b) (b := i) (by omega)
   have hai : a + i < len := by omega
   have hbi : b + i < len := by omega
   refine awp_skip ?_
   try simp only [go_sem, seval]
   refine hK1 _ _ _ ?_
   first | clear hK1 K1 | skip
   refine awp_seq_k fun K2 hK2 => ?_
   refine awp_block ?_
   refine awp_drw1 rfl zs [0, 1, 2, 3, 10] [.m, .m, .m, .q, .m, .m, .m, .q, .m, .m, .m, .q, .q, .q, .m, .m, .m, .q, .q, .q, .q, .w [7], .q, .w []] (by kernel_rfl) (fun _ _ _ _ _ h => h) fun K hK => ?_
   try simp only [go_sem, seval, wa, wb, Int.toNat_natCast, S.nthE, swapN_length, List.length_set, hll, hai, hbi, ← List.map_set, List.length_map, S.sz, S.agg, S.mem]
   repeat refine peel ?_
   refine hK _ _ _ ?_; clear hK K
   try simp only [go_sem, seval]
   refine hK2 _ _ _ ?_
   first | clear hK2 K2 | skip
   refine awp_reg1 zs [0, 1, 2, 3, 10] fun K hK => ?_
   try simp only [go_sem, seval]
   refine hK _ _ _ ?_; clear hK K
   try simp only [go_sem, seval]
   refine ⟨⟨i + 1, by omega, by rw [w1 (by omega)], by rw [swapN, swapL]⟩, by rw [w1 (by omega)]; simp; omega⟩
  ·skip
   have hge : i = m := by simp at hb; omega
   refine awp_exit ?_
   try simp only [go_sem, seval]
   rw [hge]
theorem c_slices_rotate {α : Type} [Inhabited α] (S : SortOf α) (k ver : Nat) (l : List α) (len : Nat) (hll : l.length = len) (a m b : Nat) (H : Heap) (n : Nat) (hk : k < n) (hH : H k = some (.arr ver 7 (l.map S.f))) (ha : a < m) (hmb : m < b) (hbl : b ≤ len) (hl : len < 2305843009213693952) :
    Ret Tryz.prog 135 [.osl k ver 0 len, .int .i64 a, .int .i64 m, .int .i64 b, cmpAV] H n (.tup []) (H.put k (some (.arr ver 7 ((rotL (b - a) l m (m - a) (b - m)).map S.f)))) n := by
  have v1 := wSub (a := m) (b := a) (by omega) (by omega)
  have v2 := wSub (a := b) (b := m) (by omega) (by omega)
  refine acalls_of_awp Tryz.func135 rfl Tryz.ntmps135 (congrArg Array.toList Tryz.results135) (by simp) ?_
  simp only [go_sem]
  refine awp_reg zs [0, 2, 3, 4, 10] fun K hK => ?_
  try simp only [go_sem, seval, v1]
  refine hK _ _ _ ?_; clear hK K
  refine awp_reg zs [0, 2, 4, 10, 11] fun K hK => ?_
  try simp only [go_sem, seval, v2]
  refine hK _ _ _ ?_; clear hK K
  refine awp_seq_k fun K1 hK1 => ?_
  refine awp_block ?_
  refine awp_loop (fun T' H' n' => ∃ (c i j : Nat) (l' : List α), i + j ≤ c ∧ 0 < i ∧ 0 < j ∧ i ≤ m ∧ m + j ≤ len ∧ l'.length = len ∧ T' = tl [(0, .osl k ver 0 len), (2, .int .i64 m), (4, cmpAV), (10, .int .i64 i), (11, .int .i64 j)] ∧ H' = H.put k (some (.arr ver 7 (l'.map S.f))) ∧ n' = n ∧ rotL c l' m i j = rotL (b - a) l m (m - a) (b - m)) (fun T' _ _ => iv (T' 10) + iv (T' 11)) ?_ ?_
  ·skip
   exact ⟨b - a, m - a, b - m, l, by omega, by omega, by omega, by omega, by omega, hll, rfl, by rw [put_id hH], rfl, rfl⟩
  intro T1 H1 n1
  rintro ⟨c, i, j, l', hc, hi, hj, him, hjl, hll', rfl, rfl, rfl, hr⟩
  refine awp_seq_k fun K2 hK2 => ?_
  refine awp_rq zs [0, 2, 4, 10, 11, 20] ?_
  refine awp_cnd (fun hb => ?_) (fun hb => ?_)
  ·skip
   have hne : i ≠ j := by simp at hb; omega
   have v3 := wSub (a := m) (b := i) (by omega) (by omega)
   have v4 := wAdd (a := m) (b := j) (by omega)
   have v5 := wSub (a := m + j) (b := i) (by omega) (by omega)
   obtain ⟨c', rfl⟩ : ∃ c', c = c' + 1 := ⟨c - 1, by omega⟩
   rw [rotL, if_neg hne] at hr
   refine awp_skip ?_
   try simp only [go_sem, seval]
   refine hK2 _ _ _ ?_
   first | clear hK2 K2 | skip
   refine awp_block ?_
   refine awp_rq zs [0, 2, 4, 10, 11, 23] ?_
   refine awp_cnd (fun hb => ?_) (fun hb => ?_)
   ·skip
    have hgt : i > j := by simp at hb; omega
    rw [if_pos hgt] at hr
    have v6 := wSub (a := i) (b := j) (by omega) (by omega)
    refine awp_reg zs [0, 2, 4, 10, 11] fun K hK => ?_
    try simp only [go_sem, seval, v3]
    refine callK_use Tryz.func139 rfl rfl rfl ((c_slices_swapRange S k ver l' len hll' (m - i) m j _ _ hk (Heap.put_same _ _ _) (by omega) (by omega) hl)) ?_
    try simp only [go_sem, seval]
    refine hK _ _ _ ?_; clear hK K
    refine awp_reg1 zs [0, 2, 4, 10, 11] fun K hK => ?_
    try simp only [go_sem, seval, v6]
    refine hK _ _ _ ?_; clear hK K
    try simp only [go_sem, seval]
    first
    | exact ⟨⟨c', i - j, j, _, by omega, by omega, by omega, by omega, by omega, by rw [swapN_length, hll'], rfl, rfl, hr⟩, by simp only [iv_int, Int.toNat_natCast]; omega⟩
    | exact ⟨⟨c', i, j - i, _, by omega, by omega, by omega, by omega, by omega, by rw [swapN_length, hll'], rfl, rfl, hr⟩, by simp only [iv_int, Int.toNat_natCast]; omega⟩
   ·skip
    have hgt : ¬ i > j := by simp at hb; omega
    rw [if_neg hgt] at hr
    have v6 := wSub (a := j) (b := i) (by omega) (by omega)
    refine awp_reg zs [0, 2, 4, 10, 11] fun K hK => ?_
    try simp only [go_sem, seval, v3, v4, v5]
    refine callK_use Tryz.func139 rfl rfl rfl ((c_slices_swapRange S k ver l' len hll' (m - i) (m + j - i) i _ _ hk (Heap.put_same _ _ _) (by omega) (by omega) hl)) ?_
    try simp only [go_sem, seval]
    refine hK _ _ _ ?_; clear hK K
    refine awp_reg1 zs [0, 2, 4, 10, 11] fun K hK => ?_
    try simp only [go_sem, seval, v6]
    refine hK _ _ _ ?_; clear hK K
    try simp only [go_sem, seval]
    first
    | exact ⟨⟨c', i - j, j, _, by omega, by omega, by omega, by omega, by omega, by rw [swapN_length, hll'], rfl, rfl, hr⟩, by simp only [iv_int, Int.toNat_natCast]; omega⟩
    | exact ⟨⟨c', i, j - i, _, by omega, by omega, by omega, by omega, by omega, by rw [swapN_length, hll'], rfl, rfl, hr⟩, by simp only [iv_int, Int.toNat_natCast]; omega⟩
  ·skip
   have heq : i = j := by simp at hb; omega
   have v3 := wSub (a := m) (b := i) (by omega) (by omega)
   obtain ⟨c', rfl⟩ : ∃ c', c = c' + 1 := ⟨c - 1, by omega⟩
   rw [rotL, if_pos heq] at hr
   refine awp_exit ?_
   try simp only [go_sem, seval]
   refine hK1 _ _ _ ?_
   first | clear hK1 K1 | skip
   refine awp_reg1 zs [] fun K hK => ?_
   try simp only [go_sem, seval, v3]
   refine callK_use Tryz.func139 rfl rfl rfl ((c_slices_swapRange S k ver l' len hll' (m - i) m i _ _ hk (Heap.put_same _ _ _) (by omega) (by omega) hl)) ?_
   try simp only [go_sem, seval]
   refine hK _ _ _ ?_; clear hK K
   try simp only [go_sem, seval]
   rw [← hr]
theorem c_slices_insertion {α : Type} [Inhabited α] (S : SortOf α) (k ver : Nat) (l : List α) (len : Nat) (hll : l.length = len) (a b : Nat) (H : Heap) (n : Nat) (hk : k < n) (hH : H k = some (.arr ver 7 (l.map S.f))) (hc : CmpC S k H) (hbl : b ≤ len) (hal : a ≤ len) (hl : len < 2305843009213693952) :
    Ret Tryz.prog 119 [.osl k ver 0 len, .int .i64 a, .int .i64 b, cmpAV] H n (.tup []) (H.put k (some (.arr ver 7 ((insN S.lt l a (b - a - 1)).map S.f)))) n := by
  have v1 : IntKind.i64.wrap ((a : Int) + 1) = ((a + 1 + 0 : Nat) : Int) := by rw [w1 (by omega)]
  refine acalls_of_awp Tryz.func119 rfl Tryz.ntmps119 (congrArg Array.toList Tryz.results119) (by simp) ?_
  simp only [go_sem]
  refine awp_reg zs [0, 1, 2, 3, 8] fun K hK => ?_
  try simp only [go_sem, seval, v1]
  refine hK _ _ _ ?_; clear hK K
  refine awp_block ?_
  refine awp_loop (fun T' H' n' => ∃ (i : Nat), i ≤ b - a - 1 ∧ T' = tl [(0, .osl k ver 0 len), (1, .int .i64 a), (2, .int .i64 b), (3, cmpAV), (8, .int .i64 (a + 1 + i : Nat))] ∧ H' = H.put k (some (.arr ver 7 ((insN S.lt l a i).map S.f))) ∧ n' = n) (fun T' _ _ => b - iv (T' 8)) ?_ ?_
  ·skip
   exact ⟨0, by omega, rfl, by rw [insN, put_id hH], rfl⟩
  intro T1 H1 n1
  rintro ⟨i, hi, rfl, rfl, rfl⟩
  refine awp_seq_k fun K1 hK1 => ?_
  refine awp_rq zs [0, 1, 2, 3, 8, 14] ?_
  refine awp_cnd (fun hb => ?_) (fun hb => ?_)
  ·skip
   have hlt : a + 1 + i < b := by simp at hb; omega
   have hgl : (insN S.lt l a i).length = len := by rw [insN_length, hll]
   generalize hg : insN S.lt l a i = l1 at *
   refine awp_skip ?_
   try simp only [go_sem, seval]
   refine hK1 _ _ _ ?_
   first | clear hK1 K1 | skip
   refine awp_seq_k fun K2 hK2 => ?_
   refine awp_block ?_
   refine awp_rq zs [0, 1, 2, 3, 8, 9] ?_
   refine awp_block ?_
   refine awp_loop (fun T' H' n' => ∃ (j : Nat) (l' : List α), j ≤ a + 1 + i ∧ a ≤ j ∧ l'.length = len ∧ T' = tl [(0, .osl k ver 0 len), (1, .int .i64 a), (2, .int .i64 b), (3, cmpAV), (8, .int .i64 (a + 1 + i : Nat)), (9, .int .i64 j)] ∧ H' = H.put k (some (.arr ver 7 (l'.map S.f))) ∧ n' = n1 ∧ insL S.lt l' a j = insL S.lt l1 a (a + 1 + i)) (fun T' _ _ => iv (T' 9)) ?_ ?_
   ·skip
    exact ⟨a + 1 + i, l1, by omega, by omega, hgl, rfl, rfl, rfl, rfl⟩
   intro T1 H1 n1
   rintro ⟨j, l', hj, haj, hll', rfl, rfl, rfl, hr⟩
   refine awp_seq_k fun K3 hK3 => ?_
   have v2 : IntKind.i64.wrap ((j : Int) - 1) = (j : Int) - 1 := w64 (by omega) (by omega)
   have v3 : ((j : Int) - 1).toNat = j - 1 := by omega
   have v4 : j < len := by omega
   have v5 : j - 1 < len := by omega
   refine awp_drw rfl zs [0, 1, 2, 3, 8, 9, 34] [.m, .m, .q, .m, .m, .m, .m, .q, .q, .m, .m, .q, .q, .q, .c, .q, .q] (by kernel_rfl) (fun _ _ _ _ _ h => h) fun K hK => ?_
   try simp only [go_sem, seval, v2, v3, v4, v5, Int.toNat_natCast, S.nthE, hll', S.lenE, S.sz, S.agg, cmpAV]
   repeat (first | (refine And.intro ?_ ?_; · first | (intro h9; simp at h9; omega)) | refine peel ?_)
   refine callQG_use Tryz.func66 rfl rfl rfl (fun _ n => (hc _ n (atL l' j) (atL l' (j - 1)) (by intro jj hjj; simp [Heap.put, hjj]))) ?_
   try simp only [go_sem, seval]
   repeat (first | (refine And.intro ?_ ?_; · first | (intro h9; simp at h9; omega)) | refine peel ?_)
   refine hK _ _ _ ?_; clear hK K
   refine awp_cnd (fun hb => ?_) (fun hb => ?_)
   ·skip
    have hc : a < j ∧ S.lt (atL l' j) (atL l' (j - 1)) = true := by cases h9 : decide ((a : Int) < (j : Int)) <;> simp_all [SortOf.lt]
    obtain ⟨j', rfl⟩ : ∃ j', j = j' + 1 := ⟨j - 1, by omega⟩
    simp only [Nat.add_sub_cancel] at hc
    rw [insL, if_pos hc] at hr
    have v6 : IntKind.i64.wrap (((j' + 1 : Nat) : Int) - 1) = (j' : Int) := by rw [w64 (by omega) (by omega)]; omega
    have v7 : j' < len := by omega
    refine awp_skip ?_
    try simp only [go_sem, seval]
    refine hK3 _ _ _ ?_
    first | clear hK3 K3 | skip
    refine awp_seq_k fun K4 hK4 => ?_
    refine awp_block ?_
    refine awp_drw1 rfl zs [0, 1, 2, 3, 8, 9] [.m, .m, .m, .m, .q, .m, .m, .q, .q, .q, .m, .m, .q, .q, .q, .w [4], .q, .w []] (by kernel_rfl) (fun _ _ _ _ _ h => h) fun K hK => ?_
    try simp only [go_sem, seval, v6, v4, v7, Int.toNat_natCast, S.nthE, hll', List.length_set, ← List.map_set, S.lenE, S.sz, S.agg, S.mem]
    repeat refine peel ?_
    refine hK _ _ _ ?_; clear hK K
    try simp only [go_sem, seval]
    refine hK4 _ _ _ ?_
    first | clear hK4 K4 | skip
    refine awp_reg1 zs [0, 1, 2, 3, 8, 9] fun K hK => ?_
    try simp only [go_sem, seval, v6]
    refine hK _ _ _ ?_; clear hK K
    try simp only [go_sem, seval]
    refine ⟨⟨j', _, by omega, by omega, ?_, rfl, rfl, by rw [← hr]; rfl⟩, by simp only [iv_int, Int.toNat_natCast]; omega⟩
    simp [hll']
   ·skip
    have hc : ¬ (a < j ∧ S.lt (atL l' j) (atL l' (j - 1)) = true) := by cases h9 : decide ((a : Int) < (j : Int)) <;> simp_all [SortOf.lt]
    have hr2 : insN S.lt l a (i + 1) = l' := by rw [insN, hg, ← hr]; cases j with | zero => rfl | succ j => (simp only [Nat.add_sub_cancel] at hc; rw [insL, if_neg hc])
    refine awp_exit ?_
    try simp only [go_sem, seval]
    refine hK2 _ _ _ ?_
    first | clear hK2 K2 | skip
    refine awp_reg1 zs [0, 1, 2, 3, 8] fun K hK => ?_
    try simp only [go_sem, seval]
    refine hK _ _ _ ?_; clear hK K
    try simp only [go_sem, seval]
    have v8 : IntKind.i64.wrap (((a + 1 + i : Nat) : Int) + 1) = ((a + 1 + (i + 1) : Nat) : Int) := by rw [w64 (by omega) (by omega)]; omega
    rw [v8]; exact ⟨⟨i + 1, by omega, rfl, by rw [hr2]⟩, by simp only [Int.toNat_natCast]; omega⟩
  ·skip
   have hge : b - a - 1 ≤ i := by simp at hb; omega
   refine awp_exit ?_
   try simp only [go_sem, seval]
   rw [show b - a - 1 = i by omega]
end Go.Proofs.YtijhkfhflpmajaaGreat